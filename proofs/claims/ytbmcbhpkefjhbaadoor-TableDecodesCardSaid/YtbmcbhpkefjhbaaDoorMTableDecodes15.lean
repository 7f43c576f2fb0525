/- by wip/prune.py -/
import Derived.Test.YtbmcbhpkefjhbaaDoorMTableDecodes4
import Derived.Defers
import Derived.Recover
import Derived.Test.YtbmcbhpkefjhbaaDoorMTableDecodes5
import Derived.Test.YtbmcbhpkefjhbaaDoorMTableDecodes11
import Derived.Test.YtbmcbhpkefjhbaaDoorMTableDecodes14
set_option linter.unusedSimpArgs false
set_option linter.unusedVariables false
namespace Go.Proofs.YtbmcbhpkefjhbaaDoor.Pac
open Go.RowKit YtbmcbhpkefjhbaaDoor YtbmcbhpkefjhbaaDoor.Mem YtbmcbhpkefjhbaaDoorW.PrintWords YtbmcbhpkefjhbaaDoorW.PrintLast YtbmcbhpkefjhbaaDoorW.PrintMore
structure TK (w : World) (g : Nat) (B : Option Addr) (c : Nat) (b : List Int) (at_ : Nat) : Prop where
  c0 : w.cell? ⟨g,0,none⟩=some (.slice B b.length c)
  c1 : w.cell? ⟨g,1,none⟩=some (.int .i64 (at_ : Int))
  fz : w.frozen? ⟨g,1,none⟩=false
  rd : RdB w B b
  far : ∀ ad,B=some ad→0<b.length→ad.block≠g
  cap : b.length≤c
theorem TK.below {w w' : World} {g : Nat} {B : Option Addr} {c : Nat} {b : List Int} {p : Nat} (h : TK w g B c b p) (hb : Below w.heap.size w w') : TK w' g B c b p where
  c0:=(hb.cell (wb_ w _ h.c0)).trans h.c0
  c1:=(hb.cell (wb_ w _ h.c1)).trans h.c1
  fz:=(hb.frozen (wb_ w _ h.c1)).trans h.fz
  rd:=Kd.C_below h.rd hb
  far:=h.far
  cap:=h.cap
theorem RdB_grown {w w' : World} {g : Nat} {B : Option Addr} {b : List Int} (h : RdB w B b) (hg : w.grownBy w' (some g)) (hf : ∀ ad,B=some ad→0<b.length→ad.block≠g) : RdB w' B b:=by
  obtain ⟨h1,h2,h3⟩:=Kd.reads_of_C (d:=(0 : Int)) h
  refine Kd.C_of_reads (h1:=fun _=>rfl) (d:=(0 : Int)) ⟨h1,h2,fun hp=>?_⟩
  obtain ⟨ad,e,hc⟩:=h3 hp
  refine ⟨ad,e,fun j hj=>hg.cell (hc j hj) ?_⟩
  intro hh
  injection hh with hh
  rw [show (ad.add j).block=ad.block by unfold Addr.add; split <;> rfl] at hh
  exact hf ad e hp hh
theorem grown_set (w : World) (g i : Nat) (v : Value) : w.grownBy (w.setCell ⟨g,i,none⟩ v) (some g):=⟨rfl,rfl,rfl,by show _≤(w.setCell ⟨g,i,none⟩ v).heap.size; rw [World.size_setCell]; exact Nat.le_refl _,fun k _ hne=>Below.heap_setCell w ⟨g,i,none⟩ v k (fun h=>hne (by rw [h]))⟩
theorem TK.set {w : World} {g : Nat} {B : Option Addr} {c : Nat} {b : List Int} {p : Nat} (h : TK w g B c b p) (q : Nat) (z : Int) (hz : z=(q : Int)) : TK (w.setCell ⟨g,1,none⟩ (.int .i64 z)) g B c b q where
  c0:=(World.cell?_setCell_other _ _ _ _ (by intro hh; injection hh with _ hh _; cases hh)).trans h.c0
  c1:=by rw [World.cell?_setCell_same _ _ _ h.c1,hz]
  fz:=by rw [World.frozen?_setCell]; exact h.fz
  rd:=RdB_grown h.rd (grown_set _ _ _ _) h.far
  far:=h.far
  cap:=h.cap
theorem grown_drewN (w : World) (n : Nat) (row : Option Nat) : w.grownBy (w.drewN n) row:=⟨rfl,rfl,rfl,Nat.le_refl _,fun _ _ _=>rfl⟩
theorem TK.drewN {w : World} {g : Nat} {B : Option Addr} {c : Nat} {b : List Int} {p : Nat} (h : TK w g B c b p) (n : Nat) : TK (w.drewN n) g B c b p:=h.below (bd_ (Below.refl _ _) n)
def TkPost (w : World) (g : Nat) (B : Option Addr) (c : Nat) (b : List Int) (p n : Nat) (e : Ending) (w' : World) : Prop :=
  w.grownBy w' (some g)∧((p + n≤b.length∧TK w' g B c b (p + n)∧∃ A' c',e=.returned (.slice A' n c')∧RdB w' A' ((b.drop p).take n))∨(b.length<p + n∧∃ pv : Int,e=.panicked [{ v:=.iface 70 (.agg #[.int .i64 pv]),recovered:=false }]))
set_option maxRecDepth 100000 in
theorem cut_b (A : Option Addr) (c : Nat) (l : List Int) (lo n : Nat) (hl : lo + n≤l.length) (hc : l.length≤c) :
    ∃ A',(∀ W : World,(Instr.slice 22 (.slice A l.length c) (some (.int .i64 (lo : Int))) (some (.int .i64 ((lo : Int) + (n : Int)))) none).run Tryd.prog W=.ok (.slice A' n (c - lo)) W)∧∀ w,RdB w A l→RdB w A' ((l.drop lo).take n):=by
  obtain ⟨i0,hi0,_,hsz,_⟩:=info_parts info8
  refine ⟨if c=lo then A else A.map (·.add (lo * 1)),fun W=>?_,fun w h=>?_⟩
  · have h:=cut_mid (P:=Tryd.prog) 22 5 .i64 .i64 Tryd.underlying22 hi0 1 hsz A l.length c (lo : Int) ((lo : Int) + (n : Int)) (by omega) (by omega) (by omega) hc W
    rw [h,Int.toNat_natCast,show ((lo : Int) + (n : Int)).toNat - lo=n by omega]
  · have h:=Kd.C_mid (lo:=lo) (hi:=lo + n) h (by omega) hl hc
    rw [show ((l.take (lo + n)).drop lo)=(l.drop lo).take n by rw [List.drop_take]; congr 1; omega] at h
    exact h
set_option maxRecDepth 100000 in
theorem tk_bytes (w : World) (g : Nat) (B : Option Addr) (c : Nat) (b : List Int) (p n : Nat) (h : TK w g B c b p) (hb : b.length≤1000000) (hp : p≤b.length) (hn : n≤1000) :
    Calls Tryd.prog 63 #[.pointer (some ⟨g,0,none⟩),.int .i64 (n : Int)] w fun e w'=>TkPost w g B c b p n e w':=by
  have HT:=Lib.hid h;have p0 : (0 : Int)≤(p : Int):=Int.natCast_nonneg _;have n0 : (0 : Int)≤(n : Int):=Int.natCast_nonneg _;have b0 : (0 : Int)≤(b.length : Int):=Int.natCast_nonneg _
  have b1 : (b.length : Int)≤1000000:=by omega
  have p1 : (p : Int)≤(b.length : Int):=by omega
  have n1 : (n : Int)≤1000:=by omega
  obtain ⟨c0,c1,fz,rd,far,cap⟩:=h;clear rd far
  by_cases hlt : p + n≤b.length
  · have hd : decide ((b.length : Int) - (p : Int)<(n : Int))=false:=df_ (by omega)
    go_enter Tryd.func63,Tryd.ntmps63;go_wp2;go_quiet (fail);have HT1:=Lib.hid (HT.out.drewN nq);have HG1:=Lib.hid (grown_drewN w nq (some g));obtain ⟨d0,d1,df,_,_,_⟩:=HT1.out;go_wp2
    have HT2:=Lib.hid (HT1.out.set (p + n) ((p : Int) + (n : Int)) (by omega))
    have HG2:=Lib.hid (World.grownBy.trans HG1.out (grown_set (w.drewN nq) g 1 (.int .i64 ((p : Int) + (n : Int)))))
    generalize (w.drewN nq).setCell ⟨g,1,none⟩ (.int .i64 ((p : Int) + (n : Int)))=w2 at HT2 HG2 ⊢
    obtain ⟨A',hsl,hrd⟩:=cut_b B c b p n hlt cap;have HRD:=Lib.hid hrd;have y0:=HT2.out.c0;have y1:=HT2.out.c1
    rw [show (((p + n : Nat) : Int))=(p : Int) + (n : Int) by omega] at y1
    clear hrd d0 d1 df c0 c1 fz;go_quiet (fail);go_wp2;go_ret;exact ⟨World.grownBy.trans HG2.out (grown_drewN _ _ _),.inl ⟨hlt,HT2.out.drewN _,A',_,rfl,HRD.out _ (Kd.C_drewN HT2.out.rd _)⟩⟩
  · have hd : decide ((b.length : Int) - (p : Int)<(n : Int))=true:=dt_ (by omega)
    go_enter Tryd.func63,Tryd.ntmps63;go_wp2;go_quiet (fail);go_wp2
    exact ⟨rfl,grown_drewN _ _ _,.inr ⟨by omega,_,rfl⟩⟩
theorem or_lo (u x : Int) (hu : 0≤u) (hu2 : u<72057594037927936) (h0 : 0≤x) (h1 : x≤255) : bits BinOp.or IntKind.u64 (IntKind.u64.wrap (u * 256)) x=u * 256 + x:=by
  have hw : IntKind.u64.wrap (u * 256)=u * 256:=by rw [IntKind.wrap_u64]; omega
  rw [hw];obtain ⟨a,rfl⟩:=Int.eq_ofNat_of_zero_le hu;obtain ⟨b,rfl⟩:=Int.eq_ofNat_of_zero_le h0
  unfold bits
  have e1 : BitVec.ofInt IntKind.u64.bits ((a : Int) * 256)=BitVec.ofNat 64 (a * 256):=by
    show BitVec.ofInt 64 _=_
    rw [show ((a : Int) * 256)=((a * 256 : Nat) : Int) by omega,BitVec.ofInt_natCast]
  have e2 : BitVec.ofInt IntKind.u64.bits (b : Int)=BitVec.ofNat 64 b:=by
    show BitVec.ofInt 64 _=_
    rw [BitVec.ofInt_natCast]
  simp only [e1,e2]
  have e3 : (BitVec.ofNat 64 (a * 256) ||| BitVec.ofNat 64 b).toNat=a * 256 + b:=by
    rw [BitVec.toNat_or,BitVec.toNat_ofNat,BitVec.toNat_ofNat,Nat.mod_eq_of_lt (by omega),Nat.mod_eq_of_lt (by omega)]
    have:=Nat.shiftLeft_add_eq_or_of_lt (i:=8) (b:=b) (by omega) a
    rw [Nat.shiftLeft_eq,show 2 ^ 8=256 from rfl] at this
    omega
  show IntKind.u64.wrap ((BitVec.ofNat 64 (a * 256) ||| BitVec.ofNat 64 b).toNat : Int)=_
  rw [e3,IntKind.wrap_u64];omega
theorem foldl_bd : ∀ (l : List Int) (u : Int) (k : Nat),(∀ x ∈ l,0≤x∧x≤255)→0≤u→u<256 ^ k→0≤l.foldl (fun u c=>u * 256 + c) u∧l.foldl (fun u c=>u * 256 + c) u<256 ^ (k + l.length):=by
  intro l
  induction l with
  | nil=>intro u k _ h0 h1; exact ⟨h0,h1⟩
  | cons x l ih =>
    intro u k hb h0 h1;have hx:=hb x List.mem_cons_self
    have h2 : u * 256 + x<256 ^ (k + 1):=by rw [Int.pow_succ]; omega
    have:=ih (u * 256 + x) (k + 1) (fun y hy=>hb y (List.mem_cons_of_mem _ hy)) (by omega) h2
    rw [List.foldl_cons,List.length_cons,show k + (l.length + 1)=k + 1 + l.length by omega]
    exact this
theorem pow56 (i : Nat) (h : i<8) : (256 : Int) ^ i≤72057594037927936:=by
  have : i=0∨i=1∨i=2∨i=3∨i=4∨i=5∨i=6∨i=7:=by omega
  rcases this with rfl|rfl|rfl|rfl|rfl|rfl|rfl|rfl <;> decide
def num (l : List Int) : Int:=l.foldl (fun u c=>u * 256 + c) 0
theorem num_snoc (l : List Int) (x : Int) : num (l++[x])=num l * 256 + x:=by unfold num; rw [List.foldl_append]; rfl
theorem num_bd {l : List Int} (h : Bytes l) : 0≤num l∧num l<256 ^ l.length:=by
  have:=foldl_bd l 0 0 h (Int.le_refl _) (by decide)
  rw [Nat.zero_add] at this;exact this
def TnPost (w : World) (g : Nat) (B : Option Addr) (c : Nat) (b : List Int) (p n : Nat) (e : Ending) (w' : World) : Prop :=
  w.grownBy w' (some g)∧((p + n≤b.length∧TK w' g B c b (p + n)∧e=.returned (.int .u64 (num ((b.drop p).take n))))∨(b.length<p + n∧∃ pv : Int,e=.panicked [{ v:=.iface 70 (.agg #[.int .i64 pv]),recovered:=false }]))
set_option maxRecDepth 100000 in
theorem tk_number (w : World) (g : Nat) (B : Option Addr) (c : Nat) (b : List Int) (p n : Nat) (h : TK w g B c b p) (hby : Bytes b) (hb : b.length≤1000000) (hp : p≤b.length) (hn : n≤8) :
    Calls Tryd.prog 62 #[.pointer (some ⟨g,0,none⟩),.int .i64 (n : Int)] w fun e w'=>TnPost w g B c b p n e w':=by
  have BY:=Lib.hid (tk_bytes w g B c b p n h hb hp (by omega))
  have HBy:=Lib.hid hby;clear h hby;go_enter Tryd.func62,Tryd.ntmps62;go_wp2_with fail;refine BY.out.mono ?_;rintro e w1 ⟨hg,⟨hlt,hT,A',c',rfl,hrd⟩ | ⟨hlt,pv,rfl⟩⟩
  · have HG:=Lib.hid hg
    have HT:=Lib.hid hT;have HRD:=Lib.hid hrd
    have hlen : ((b.drop p).take n).length=n:=by rw [List.length_take,List.length_drop]; omega
    have hbs : Bytes ((b.drop p).take n):=(HBy.out.drop p).take n;clear hg hT hrd BY
    generalize hdl : (b.drop p).take n=l at *
    have HDL:=Lib.hid hdl;clear hdl;have HBL:=Lib.hid hbs;obtain rfl : l.length=n:=hlen;have l0 : (0 : Int)≤(l.length : Int):=Int.natCast_nonneg _
    have l8 : (l.length : Int)≤8:=by omega
    clear hbs;go_wp2_with fail
    go_loopg [5,12] l.length (fun k v5 v12 wr=>∃ i : Nat,i≤l.length∧k=l.length - i∧v12=.int .i64 (i : Int)∧v5=.int .u64 (num (l.take i))∧wr=w1)
    case atStart=>exact ⟨0,Nat.zero_le _,rfl,rfl,rfl,rfl⟩
    case round =>
      obtain ⟨i,hi,rfl,rfl,rfl,rfl⟩:=hrel;have i0 : (0 : Int)≤(i : Int):=Int.natCast_nonneg _
      by_cases hlt2 : i<l.length
      · have hd : decide (i<l.length)=true:=dt_ hlt2
        have i1 : (i : Int)<(l.length : Int):=by omega
        obtain ⟨ad,rfl,hx⟩:=Kd.at_int HRD.out (i : Int) (by omega) (by omega)
        rw [Int.toNat_natCast] at hx;have HS:=Lib.hid (take_snoc l i hlt2);have HU:=num_bd (HBL.out.take i);have HX:=HBL.out.at_ i hlt2
        generalize rd l (i : Int)=x at *
        rw [List.length_take,Nat.min_eq_left (by omega)] at HU
        generalize hu : num (l.take i)=u at *
        have HUE:=Lib.hid hu
        have u56 : u<72057594037927936:=by
          have:=pow56 i (by omega)
          omega
        have hor:=or_lo u x HU.1 u56 HX.1 HX.2;clear hu HU;go_wp2;go_roundg (l.length - (i + 1))
        case measure=>omega
        case rel=>exact ⟨i + 1,by omega,rfl,by go_num,by rw [HS.out,num_snoc,HUE.out],rfl⟩
      · have hd : decide (i<l.length)=false:=df_ hlt2
        obtain rfl : i=l.length:=by omega
        go_wp2;go_ret
        exact ⟨HG.out,.inl ⟨hlt,HT.out,by rw [HDL.out]; first|rfl|(rw [List.take_length]; rfl)⟩⟩
  · exact ⟨rfl,hg,.inr ⟨hlt,pv,rfl⟩⟩
end Go.Proofs.YtbmcbhpkefjhbaaDoor.Pac
namespace Go.Proofs.YtbmcbhpkefjhbaaDoor.Pac
open Go.RowKit YtbmcbhpkefjhbaaDoor YtbmcbhpkefjhbaaDoor.Mem YtbmcbhpkefjhbaaDoorW.PrintWords YtbmcbhpkefjhbaaDoorW.PrintLast YtbmcbhpkefjhbaaDoorW.PrintMore
theorem grown_below {w w' : World} (hb : Below w.heap.size w w') (row : Option Nat) : w.grownBy w' row:=⟨hb.os,hb.tape,hb.output,hb.size,fun i hi _=>hb.block i hi⟩
theorem grown_set_new {w w' : World} {row : Option Nat} (h : w.grownBy w' row) {p : Addr} (hp : w.heap.size≤p.block) (v : Value) : w.grownBy (w'.setCell p v) row :=
  ⟨h.os,h.tape,h.output,by rw [World.size_setCell]; exact h.size,fun k hk hne=>(Below.heap_setCell w' p v k (by omega)).trans (h.block k hk hne)⟩
theorem frozen_new (w : World) (xs : Array Value) (t : TypeId) (i : Nat) : (w.alloc (.cells xs t)).frozen? ⟨w.heap.size,i,none⟩=false:=by
  simp [go_sem]
structure OI (w : World) (h : Nat) (a : It) : Prop where
  has : HasIt w h a
  fz : ∀ i,w.frozen? ⟨h,i,none⟩=false
theorem OI.lt {w : World} {h : Nat} {a : It} (o : OI w h a) : h<w.heap.size:=wb_ w _ o.has.1
theorem OI.alloc (w : World) (a : It) : OI (w.alloc a.o) w.heap.size a:=⟨HasIt.alloc w a,fun i=>frozen_new w _ _ i⟩
theorem OI.grown {w w' : World} {h g : Nat} {a : It} (o : OI w h a) (hg : w.grownBy w' (some g)) (hne : h≠g) : OI w' h a where
  has:=⟨hg.cell o.has.1 (by intro e; injection e with e; exact hne e),hg.cell o.has.2.1 (by intro e; injection e with e; exact hne e),hg.cell o.has.2.2.1 (by intro e; injection e with e; exact hne e),hg.cell o.has.2.2.2 (by intro e; injection e with e; exact hne e)⟩
  fz:=fun i=>(hg.frozen_far ⟨h,i,none⟩ o.lt (by intro e; injection e with e; exact hne e)).trans (o.fz i)
theorem OI.below {w w' : World} {h : Nat} {a : It} (o : OI w h a) (hb : Below w.heap.size w w') : OI w' h a:=⟨o.has.below hb,fun i=>(hb.frozen o.lt).trans (o.fz i)⟩
theorem ne_off {h i j : Nat} (hij : i≠j) : (⟨h,i,none⟩ : Addr)≠⟨h,j,none⟩:=by intro e; injection e with _ e; exact hij e
theorem OI.setn {w : World} {h : Nat} {a : It} (o : OI w h a) (n : Int) : OI (w.setCell ⟨h,1,none⟩ (.int .i64 n)) h ⟨a.k,n,a.x,a.s⟩ where
  has:=⟨(World.cell?_setCell_other _ _ _ _ (ne_off (by decide))).trans o.has.1,World.cell?_setCell_same _ _ _ o.has.2.1,(World.cell?_setCell_other _ _ _ _ (ne_off (by decide))).trans o.has.2.2.1,(World.cell?_setCell_other _ _ _ _ (ne_off (by decide))).trans o.has.2.2.2⟩
  fz:=fun i=>by rw [World.frozen?_setCell]; exact o.fz i
theorem OI.setx {w : World} {h : Nat} {a : It} (o : OI w h a) (x : Nat) : OI (w.setCell ⟨h,2,none⟩ (.float .f64 x)) h ⟨a.k,a.n,x,a.s⟩ where
  has:=⟨(World.cell?_setCell_other _ _ _ _ (ne_off (by decide))).trans o.has.1,(World.cell?_setCell_other _ _ _ _ (ne_off (by decide))).trans o.has.2.1,World.cell?_setCell_same _ _ _ o.has.2.2.1,(World.cell?_setCell_other _ _ _ _ (ne_off (by decide))).trans o.has.2.2.2⟩
  fz:=fun i=>by rw [World.frozen?_setCell]; exact o.fz i
theorem OI.sets {w : World} {h : Nat} {a : It} (o : OI w h a) (s : ByteArray) : OI (w.setCell ⟨h,3,none⟩ (.string s)) h ⟨a.k,a.n,a.x,s⟩ where
  has:=⟨(World.cell?_setCell_other _ _ _ _ (ne_off (by decide))).trans o.has.1,(World.cell?_setCell_other _ _ _ _ (ne_off (by decide))).trans o.has.2.1,(World.cell?_setCell_other _ _ _ _ (ne_off (by decide))).trans o.has.2.2.1,World.cell?_setCell_same _ _ _ o.has.2.2.2⟩
  fz:=fun i=>by rw [World.frozen?_setCell]; exact o.fz i
theorem size_strOf (l : List Int) : (strOfNums l).size=l.length:=by
  unfold strOfNums
  simp [ByteArray.size]
theorem pow32 (i : Nat) (h : i≤4) : (256 : Int) ^ i≤4294967296:=by
  have : i=0∨i=1∨i=2∨i=3∨i=4:=by omega
  rcases this with rfl|rfl|rfl|rfl|rfl <;> decide
theorem nil_toList : (⟨#[]⟩ : ByteArray).toList=[]:=by kernel_rfl
theorem OI.other {w : World} {h : Nat} {a : It} (o : OI w h a) {j : Nat} (hne : j≠h) (i : Nat) (v : Value) : OI (w.setCell ⟨j,i,none⟩ v) h a where
  has:=⟨(World.cell?_setCell_other _ _ _ _ (by intro e; injection e with e; exact hne e)).trans o.has.1,(World.cell?_setCell_other _ _ _ _ (by intro e; injection e with e; exact hne e)).trans o.has.2.1,(World.cell?_setCell_other _ _ _ _ (by intro e; injection e with e; exact hne e)).trans o.has.2.2.1,(World.cell?_setCell_other _ _ _ _ (by intro e; injection e with e; exact hne e)).trans o.has.2.2.2⟩
  fz:=fun i=>by rw [World.frozen?_setCell]; exact o.fz i
theorem TK.other {w : World} {g : Nat} {B : Option Addr} {c : Nat} {b : List Int} {p : Nat} (t : TK w g B c b p) {h : Nat} (hne : h≠g) (hf : ∀ ad,B=some ad→0<b.length→ad.block≠h) (i : Nat) (v : Value) : TK (w.setCell ⟨h,i,none⟩ v) g B c b p where
  c0:=(World.cell?_setCell_other _ _ _ _ (by intro e; injection e with e; exact hne e)).trans t.c0
  c1:=(World.cell?_setCell_other _ _ _ _ (by intro e; injection e with e; exact hne e)).trans t.c1
  fz:=by rw [World.frozen?_setCell]; exact t.fz
  rd:=RdB_grown t.rd (grown_set _ _ _ _) hf
  far:=t.far
  cap:=t.cap
theorem RdB.lt {w : World} {B : Option Addr} {b : List Int} (h : RdB w B b) : ∀ ad,B=some ad→0<b.length→ad.block<w.heap.size:=by
  intro ad e hp;subst e
  obtain ⟨ad',e,hx⟩:=Kd.at_int h 0 (by omega) (by omega)
  injection e with e
  subst e;have:=wb_ w _ hx
  rwa [show (ad.add (0 : Int).toNat).block=ad.block by unfold Addr.add; split <;> rfl] at this
abbrev st4 (w : World) (h : Nat) (a : It) : World:=(((w.setCell ⟨h,0,none⟩ (.int .i64 a.k)).setCell ⟨h,1,none⟩ (.int .i64 a.n)).setCell ⟨h,2,none⟩ (.float .f64 a.x)).setCell ⟨h,3,none⟩ (.string a.s)
theorem OI.setk {w : World} {h : Nat} {a : It} (o : OI w h a) (n : Int) : OI (w.setCell ⟨h,0,none⟩ (.int .i64 n)) h ⟨n,a.n,a.x,a.s⟩ where
  has:=⟨World.cell?_setCell_same _ _ _ o.has.1,(World.cell?_setCell_other _ _ _ _ (ne_off (by decide))).trans o.has.2.1,(World.cell?_setCell_other _ _ _ _ (ne_off (by decide))).trans o.has.2.2.1,(World.cell?_setCell_other _ _ _ _ (ne_off (by decide))).trans o.has.2.2.2⟩
  fz:=fun i=>by rw [World.frozen?_setCell]; exact o.fz i
theorem OI.set4 {w : World} {h : Nat} {z : It} (o : OI w h z) (a : It) : OI (st4 w h a) h a:=(((o.setk a.k).setn a.n).setx a.x).sets a.s
theorem TK.set4 {w : World} {g : Nat} {B : Option Addr} {c : Nat} {b : List Int} {p : Nat} (t : TK w g B c b p) {h : Nat} (hne : h≠g) (hf : ∀ ad,B=some ad→0<b.length→ad.block≠h) (a : It) : TK (st4 w h a) g B c b p:=(((t.other hne hf _ _).other hne hf _ _).other hne hf _ _).other hne hf _ _
theorem grown_set4 {w w' : World} {row : Option Nat} (hg : w.grownBy w' row) {h : Nat} (hp : w.heap.size≤h) (a : It) : w.grownBy (st4 w' h a) row:=grown_set_new (grown_set_new (grown_set_new (grown_set_new hg hp _) hp _) hp _) hp _
def item1 (b : List Int) (p : Nat) (k : Int) : Option (It × Nat) :=
  if k=4 then
    if p + 8≤b.length∧Flt.val (num ((b.drop p).take 8)).toNat=(num ((b.drop p).take 8)).toNat then some (⟨4,0,(num ((b.drop p).take 8)).toNat,⟨#[]⟩⟩,p + 8) else none
  else if k=5 then
    if p + 1≤b.length∧p + 1 + (num ((b.drop p).take 1)).toNat≤b.length then some (⟨5,0,0,strOfNums ((b.drop (p + 1)).take (num ((b.drop p).take 1)).toNat)⟩,p + 1 + (num ((b.drop p).take 1)).toNat) else none
  else
    if p + (wid k).toNat≤b.length∧may ⟨k,num ((b.drop p).take (wid k).toNat),0,⟨#[]⟩⟩=true then some (⟨k,num ((b.drop p).take (wid k).toNat),0,⟨#[]⟩⟩,p + (wid k).toNat) else none
def TiPost (w : World) (g : Nat) (B : Option Addr) (c : Nat) (b : List Int) (p : Nat) (k : Int) (e : Ending) (w' : World) : Prop :=
  w.grownBy w' (some g)∧((∃ a q,item1 b p k=some (a,q)∧TK w' g B c b q∧e=.returned a.v)∨(item1 b p k=none∧∃ pv : Int,e=.panicked [{ v:=.iface 70 (.agg #[.int .i64 pv]),recovered:=false }]))
set_option maxRecDepth 100000 in
set_option maxHeartbeats 1000000 in
theorem tk_item (w : World) (g : Nat) (B : Option Addr) (c : Nat) (b : List Int) (p : Nat) (k : Int) (h : TK w g B c b p) (hby : Bytes b) (hb : b.length≤1000000) (hp : p≤b.length) (hk : 1≤k∧k≤5) :
    Calls Tryd.prog 40 #[.pointer (some ⟨g,0,none⟩),.int .i64 k] w fun e w'=>TiPost w g B c b p k e w':=by
  have hlt:=wb_ w _ h.c0
  simp only at hlt
  have hfar:=RdB.lt h.rd;have HT1:=Lib.hid ((h.below (ba_ (Below.refl _ _) (It.o ⟨0,0,0,⟨#[]⟩⟩))).below (ba_ (Below.refl _ _) (It.o ⟨k,0,0,⟨#[]⟩⟩)));have HG1:=Lib.hid (World.grownBy.trans (World.grownBy_alloc w (It.o ⟨0,0,0,⟨#[]⟩⟩) (some g)) (World.grownBy_alloc (w.alloc (It.o ⟨0,0,0,⟨#[]⟩⟩)) (It.o ⟨k,0,0,⟨#[]⟩⟩) (some g)));have HI1:=Lib.hid (OI.alloc (w.alloc (It.o ⟨0,0,0,⟨#[]⟩⟩)) ⟨k,0,0,⟨#[]⟩⟩);have HR1:=Lib.hid ((OI.alloc w ⟨0,0,0,⟨#[]⟩⟩).below (ba_ (Below.refl _ _) (It.o ⟨k,0,0,⟨#[]⟩⟩)))
  have hsz : (w.alloc (It.o ⟨0,0,0,⟨#[]⟩⟩)).heap.size=w.heap.size + 1:=by show (w.heap.push _).size=_; simp
  rw [hsz] at HI1;have HBy:=Lib.hid hby;have HFAR:=Lib.hid hfar
  have hsf : ∀ (a : Addr) (n : Nat) (w : World),(store a (.float .f64 n)).run Tryd.prog w=stored Tryd.prog w a (.float .f64 n) .plain:=fun a n w=>run_store _ w a _ _ rfl
  clear hsz hfar hby h
  have hcs : k=4∨k=5∨(k=1∨k=2∨k=3):=by omega
  rcases hcs with rfl|rfl|hk3
  · have hit : Hid (item1 b p 4=if p + 8≤b.length∧Flt.val (num ((b.drop p).take 8)).toNat=(num ((b.drop p).take 8)).toNat then some (⟨4,0,(num ((b.drop p).take 8)).toNat,⟨#[]⟩⟩,p + 8) else none):=Lib.hid rfl
    go_enter Tryd.func40,Tryd.ntmps40;go_wp2_with fail
    have NB:=Lib.hid (tk_number _ g B c b p 8 HT1.out HBy.out hb hp (by omega))
    generalize hW : (w.alloc (It.o ⟨0,0,0,⟨#[]⟩⟩)).alloc (It.o ⟨4,0,0,⟨#[]⟩⟩)=W1 at *
    clear hW HT1;refine NB.out.mono ?_;rintro e w2 ⟨hg,⟨hle,hT,rfl⟩ | ⟨hle,pv,rfl⟩⟩
    · have HT2:=Lib.hid hT
      have HG2:=Lib.hid (World.grownBy.trans HG1.out hg)
      have HI2:=Lib.hid (HI1.out.grown hg (by omega))
      have HR2:=Lib.hid (HR1.out.grown hg (by omega))
      have hu0 : 0≤num ((b.drop p).take 8):=(num_bd ((HBy.out.drop p).take 8)).1;clear hg hT NB HG1 HI1 HR1
      generalize num ((b.drop p).take 8)=u at *
      obtain ⟨x0,x1,x2,x3⟩:=HI2.out.has;have hfz:=HI2.out.fz
      by_cases hv : Flt.val u.toNat=u.toNat
      · have e1 : (((Flt.val u.toNat : Nat) : Int) != u)=false:=by rw [bne_eq_false_iff_eq,hv]; omega
        have HIT : Hid (item1 b p 4=some (⟨4,0,Flt.val u.toNat,⟨#[]⟩⟩,p + 8)):=Lib.hid (by rw [hit.out,if_pos ⟨hle,hv⟩,hv])
        have hmay : Hid (may ⟨4,0,Flt.val u.toNat,⟨#[]⟩⟩=true):=Lib.hid (by rw [may_4,nil_toList]; rfl)
        clear hv;go_wp2_with (first|(go_at_call 51; refine (Value_any _ _).mono ?_; rintro e w' ⟨rfl,rfl⟩));have HI3:=Lib.hid (HI2.out.setx (Flt.val u.toNat))
        have HR3:=Lib.hid (HR2.out.other (j:=w.heap.size + 1) (by omega) 2 (.float .f64 (Flt.val u.toNat)))
        have HT3:=Lib.hid (HT2.out.other (h:=w.heap.size + 1) (by omega) (fun ad e hp=>Nat.ne_of_lt (Nat.lt_succ_of_lt (HFAR.out ad e hp))) 2 (.float .f64 (Flt.val u.toNat)))
        have HG3:=Lib.hid (grown_set_new HG2.out (p:=⟨w.heap.size + 1,2,none⟩) (by simp only; omega) (.float .f64 (Flt.val u.toNat)))
        generalize w2.setCell ⟨w.heap.size + 1,2,none⟩ (.float .f64 (Flt.val u.toNat))=w3 at HI3 HR3 HT3 HG3 ⊢
        simp only at HI3
        clear x0 x1 x2 x3 hfz HI2 HR2 HT2 HG2;have CK:=Lib.hid (Check_any ⟨4,0,Flt.val u.toNat,⟨#[]⟩⟩ w3);rw [hmay.out] at CK;obtain ⟨x0,x1,x2,x3⟩:=HI3.out.has;go_wp2_with fail;refine CK.out.mono ?_;rintro e w4 ⟨rfl,hb4⟩;have HI4:=Lib.hid (HI3.out.below hb4);have HR4:=Lib.hid (HR3.out.below hb4);have HT4:=Lib.hid (HT3.out.below hb4);have HG4:=Lib.hid (World.grownBy.trans HG3.out (grown_below hb4 _));clear hb4 x0 x1 x2 x3 CK HI3 HR3 HT3 HG3;obtain ⟨x0,x1,x2,x3⟩:=HI4.out.has;obtain ⟨r0,r1,r2,r3⟩:=HR4.out.has;have hfr:=HR4.out.fz
        rw [show erOf true=0 from rfl]
        go_wp2;have HR5:=Lib.hid (HR4.out.set4 ⟨4,0,Flt.val u.toNat,⟨#[]⟩⟩)
        have HT5:=Lib.hid (HT4.out.set4 (h:=w.heap.size) (by omega) (fun ad e hp=>Nat.ne_of_lt (HFAR.out ad e hp)) ⟨4,0,Flt.val u.toNat,⟨#[]⟩⟩)
        have HG5:=Lib.hid (grown_set4 HG4.out (h:=w.heap.size) (Nat.le_refl _) ⟨4,0,Flt.val u.toNat,⟨#[]⟩⟩)
        generalize hw5 : st4 w4 w.heap.size ⟨4,0,Flt.val u.toNat,⟨#[]⟩⟩=w5 at HR5 HT5 HG5
        simp only [st4] at hw5
        rw [hw5];obtain ⟨y0,y1,y2,y3⟩:=HR5.out.has;clear hw5 x0 x1 x2 x3 r0 r1 r2 r3 hfr HI4 HR4 HT4 HG4;refine bodyPost_ret (v:=(⟨4,0,Flt.val u.toNat,⟨#[]⟩⟩ : It).v) ?_ rfl ⟨HG5.out,.inl ⟨_,_,HIT.out,HT5.out,rfl⟩⟩
        simp [results,Tryd.results40,go_sem,y0,y1,y2,y3]
      · have e1 : (((Flt.val u.toNat : Nat) : Int) != u)=true:=by rw [bne_iff_ne]; omega
        have HIT : Hid (item1 b p 4=none):=Lib.hid (by rw [hit.out,if_neg (fun h=>hv h.2)])
        have y1:=(HT2.out.other (h:=w.heap.size + 1) (by omega) (fun ad e hp=>Nat.ne_of_lt (Nat.lt_succ_of_lt (HFAR.out ad e hp))) 2 (.float .f64 (Flt.val u.toNat))).c1
        go_wp2_with (first|(go_at_call 51; refine (Value_any _ _).mono ?_; rintro e w' ⟨rfl,rfl⟩))
        exact ⟨rfl,grown_set_new HG2.out (by simp only; omega) _,.inr ⟨HIT.out,_,rfl⟩⟩
    · refine ⟨rfl,World.grownBy.trans HG1.out hg,.inr ⟨?_,pv,rfl⟩⟩
      rw [hit.out,if_neg (by omega)]
  · have hit : Hid (item1 b p 5=if p + 1≤b.length∧p + 1 + (num ((b.drop p).take 1)).toNat≤b.length then some (⟨5,0,0,strOfNums ((b.drop (p + 1)).take (num ((b.drop p).take 1)).toNat)⟩,p + 1 + (num ((b.drop p).take 1)).toNat) else none):=Lib.hid rfl
    go_enter Tryd.func40,Tryd.ntmps40;go_wp2_with fail
    have NB:=Lib.hid (tk_number _ g B c b p 1 HT1.out HBy.out hb hp (by omega))
    generalize hW : (w.alloc (It.o ⟨0,0,0,⟨#[]⟩⟩)).alloc (It.o ⟨5,0,0,⟨#[]⟩⟩)=W1 at *
    clear hW HT1;refine NB.out.mono ?_;rintro e w2 ⟨hg,⟨hle,hT,rfl⟩ | ⟨hle,pv,rfl⟩⟩
    · have HT2:=Lib.hid hT
      have HG2:=Lib.hid (World.grownBy.trans HG1.out hg)
      have HI2:=Lib.hid (HI1.out.grown hg (by omega))
      have HR2:=Lib.hid (HR1.out.grown hg (by omega))
      have hu:=num_bd ((HBy.out.drop p).take 1)
      rw [show ((b.drop p).take 1).length=1 by rw [List.length_take,List.length_drop]; omega,show (256 : Int) ^ 1=256 by decide] at hu
      clear hg hT NB HG1 HI1 HR1
      obtain ⟨m,hm⟩ : ∃ m : Nat,num ((b.drop p).take 1)=(m : Int):=⟨(num ((b.drop p).take 1)).toNat,by omega⟩
      rw [hm] at hit hu ⊢;rw [Int.toNat_natCast] at hit;clear hm;have m0 : (0 : Int)≤(m : Int):=hu.1
      have m1 : (m : Int)≤255:=by omega
      clear hu
      have BB:=Lib.hid (tk_bytes w2 g B c b (p + 1) m HT2.out hb hle (by omega))
      obtain ⟨x0,x1,x2,x3⟩:=HI2.out.has;have hfz:=HI2.out.fz;go_wp2_with fail;clear x0 x1 x2 x3 hfz;refine BB.out.mono ?_;rintro e w6 ⟨hg,⟨hle2,hT,A',c',rfl,hrd⟩ | ⟨hle2,pv,rfl⟩⟩
      · have HT6:=Lib.hid hT
        have HG6:=Lib.hid (World.grownBy.trans HG2.out hg)
        have HI6:=Lib.hid (HI2.out.grown hg (by omega))
        have HR6:=Lib.hid (HR2.out.grown hg (by omega))
        have HIT : Hid (item1 b p 5=some (⟨5,0,0,strOfNums ((b.drop (p + 1)).take m)⟩,p + 1 + m)):=Lib.hid (by rw [hit.out,if_pos ⟨hle,hle2⟩])
        have hlen : ((b.drop (p + 1)).take m).length=m:=by rw [List.length_take,List.length_drop]; omega
        have hcv:=conv_str c' hrd;rw [hlen] at hcv
        have hmay : Hid (may ⟨5,0,0,strOfNums ((b.drop (p + 1)).take m)⟩=true):=Lib.hid (by
          rw [may_5,size_strOf,hlen]
          simp
          omega)
        clear hg hT hrd BB HT2 HG2 HI2 HR2 hlen
        generalize strOfNums ((b.drop (p + 1)).take m)=sx at *
        obtain ⟨x0,x1,x2,x3⟩:=HI6.out.has;have hfz:=HI6.out.fz;go_wp2_with fail;have HI3:=Lib.hid (HI6.out.sets sx)
        have HR3:=Lib.hid (HR6.out.other (j:=w.heap.size + 1) (by omega) 3 (.string sx))
        have HT3:=Lib.hid (HT6.out.other (h:=w.heap.size + 1) (by omega) (fun ad e hp=>Nat.ne_of_lt (Nat.lt_succ_of_lt (HFAR.out ad e hp))) 3 (.string sx))
        have HG3:=Lib.hid (grown_set_new HG6.out (p:=⟨w.heap.size + 1,3,none⟩) (by simp only; omega) (.string sx))
        generalize w6.setCell ⟨w.heap.size + 1,3,none⟩ (.string sx)=w3 at HI3 HR3 HT3 HG3 ⊢
        simp only at HI3
        clear x0 x1 x2 x3 hfz HI6 HR6 HT6 HG6 hcv;have CK:=Lib.hid (Check_any ⟨5,0,0,sx⟩ w3);rw [hmay.out] at CK;obtain ⟨x0,x1,x2,x3⟩:=HI3.out.has;go_wp2_with fail;refine CK.out.mono ?_;rintro e w4 ⟨rfl,hb4⟩;have HI4:=Lib.hid (HI3.out.below hb4);have HR4:=Lib.hid (HR3.out.below hb4);have HT4:=Lib.hid (HT3.out.below hb4);have HG4:=Lib.hid (World.grownBy.trans HG3.out (grown_below hb4 _));clear hb4 x0 x1 x2 x3 CK HI3 HR3 HT3 HG3;obtain ⟨x0,x1,x2,x3⟩:=HI4.out.has;obtain ⟨r0,r1,r2,r3⟩:=HR4.out.has;have hfr:=HR4.out.fz
        rw [show erOf true=0 from rfl]
        go_wp2;have HR5:=Lib.hid (HR4.out.set4 ⟨5,0,0,sx⟩)
        have HT5:=Lib.hid (HT4.out.set4 (h:=w.heap.size) (by omega) (fun ad e hp=>Nat.ne_of_lt (HFAR.out ad e hp)) ⟨5,0,0,sx⟩)
        have HG5:=Lib.hid (grown_set4 HG4.out (h:=w.heap.size) (Nat.le_refl _) ⟨5,0,0,sx⟩)
        generalize hw5 : st4 w4 w.heap.size ⟨5,0,0,sx⟩=w5 at HR5 HT5 HG5
        simp only [st4] at hw5
        rw [hw5];obtain ⟨y0,y1,y2,y3⟩:=HR5.out.has;clear hw5 x0 x1 x2 x3 r0 r1 r2 r3 hfr HI4 HR4 HT4 HG4;refine bodyPost_ret (v:=(⟨5,0,0,sx⟩ : It).v) ?_ rfl ⟨HG5.out,.inl ⟨_,_,HIT.out,HT5.out,rfl⟩⟩
        simp [results,Tryd.results40,go_sem,y0,y1,y2,y3]
      · refine ⟨rfl,World.grownBy.trans HG2.out hg,.inr ⟨?_,pv,rfl⟩⟩
        rw [hit.out,if_neg (by omega)]
    · refine ⟨rfl,World.grownBy.trans HG1.out hg,.inr ⟨?_,pv,rfl⟩⟩
      rw [hit.out,if_neg (by omega)]
  · obtain ⟨m,hm8,hwm⟩ : ∃ m : Nat,m≤4∧wid k=(m : Int):=by
      rcases hk3 with rfl|rfl|rfl
      · exact ⟨1,by omega,rfl⟩
      · exact ⟨2,by omega,rfl⟩
      · exact ⟨4,by omega,rfl⟩
    have hit : Hid (item1 b p k=if p + m≤b.length∧may ⟨k,num ((b.drop p).take m),0,⟨#[]⟩⟩=true then some (⟨k,num ((b.drop p).take m),0,⟨#[]⟩⟩,p + m) else none):=Lib.hid (by
      unfold item1
      rw [if_neg (by omega),if_neg (by omega),hwm,Int.toNat_natCast])
    have g4 : (k == 4)=false:=by rw [beq_eq_false_iff_ne]; omega
    have g5 : (k == 5)=false:=by rw [beq_eq_false_iff_ne]; omega
    have WD:=Lib.hid (fun w=>width_any k w)
    rw [hwm] at WD;clear hk3 hwm;go_enter Tryd.func40,Tryd.ntmps40;go_wp2_with (first|(go_at_call 52; refine (WD.out _).mono ?_; rintro e w' ⟨rfl,rfl⟩))
    have NB:=Lib.hid (tk_number _ g B c b p m HT1.out HBy.out hb hp (by omega))
    generalize hW : (w.alloc (It.o ⟨0,0,0,⟨#[]⟩⟩)).alloc (It.o ⟨k,0,0,⟨#[]⟩⟩)=W1 at *
    clear hW HT1;refine NB.out.mono ?_;rintro e w2 ⟨hg,⟨hle,hT,rfl⟩ | ⟨hle,pv,rfl⟩⟩
    · have HT2:=Lib.hid hT
      have HG2:=Lib.hid (World.grownBy.trans HG1.out hg)
      have HI2:=Lib.hid (HI1.out.grown hg (by omega))
      have HR2:=Lib.hid (HR1.out.grown hg (by omega))
      have hu:=num_bd ((HBy.out.drop p).take m)
      rw [show ((b.drop p).take m).length=m by rw [List.length_take,List.length_drop]; omega] at hu
      have hp4:=pow32 m hm8;clear hg hT NB HG1 HI1 HR1
      generalize num ((b.drop p).take m)=u at *
      have u0 : 0≤u:=hu.1
      have u1 : u<4294967296:=by omega
      clear hu hp4;obtain ⟨x0,x1,x2,x3⟩:=HI2.out.has;have hfz:=HI2.out.fz;go_wp2_with fail;have HI3:=Lib.hid (HI2.out.setn u)
      have HR3:=Lib.hid (HR2.out.other (j:=w.heap.size + 1) (by omega) 1 (.int .i64 u))
      have HT3:=Lib.hid (HT2.out.other (h:=w.heap.size + 1) (by omega) (fun ad e hp=>Nat.ne_of_lt (Nat.lt_succ_of_lt (HFAR.out ad e hp))) 1 (.int .i64 u))
      have HG3:=Lib.hid (grown_set_new HG2.out (p:=⟨w.heap.size + 1,1,none⟩) (by simp only; omega) (.int .i64 u))
      generalize w2.setCell ⟨w.heap.size + 1,1,none⟩ (.int .i64 u)=w3 at HI3 HR3 HT3 HG3 ⊢
      simp only at HI3
      clear x0 x1 x2 x3 hfz HI2 HR2 HT2 HG2
      cases hmy : may ⟨k,u,0,⟨#[]⟩⟩ with
      | true =>
        have HIT : Hid (item1 b p k=some (⟨k,u,0,⟨#[]⟩⟩,p + m)):=Lib.hid (by rw [hit.out,if_pos ⟨hle,hmy⟩])
        have hmay:=Lib.hid hmy;clear hmy;have CK:=Lib.hid (Check_any ⟨k,u,0,⟨#[]⟩⟩ w3);rw [hmay.out] at CK;obtain ⟨x0,x1,x2,x3⟩:=HI3.out.has;go_wp2_with fail;refine CK.out.mono ?_;rintro e w4 ⟨rfl,hb4⟩;have HI4:=Lib.hid (HI3.out.below hb4);have HR4:=Lib.hid (HR3.out.below hb4);have HT4:=Lib.hid (HT3.out.below hb4);have HG4:=Lib.hid (World.grownBy.trans HG3.out (grown_below hb4 _));clear hb4 x0 x1 x2 x3 CK HI3 HR3 HT3 HG3;obtain ⟨x0,x1,x2,x3⟩:=HI4.out.has;obtain ⟨r0,r1,r2,r3⟩:=HR4.out.has;have hfr:=HR4.out.fz
        rw [show erOf true=0 from rfl]
        go_wp2;have HR5:=Lib.hid (HR4.out.set4 ⟨k,u,0,⟨#[]⟩⟩)
        have HT5:=Lib.hid (HT4.out.set4 (h:=w.heap.size) (by omega) (fun ad e hp=>Nat.ne_of_lt (HFAR.out ad e hp)) ⟨k,u,0,⟨#[]⟩⟩)
        have HG5:=Lib.hid (grown_set4 HG4.out (h:=w.heap.size) (Nat.le_refl _) ⟨k,u,0,⟨#[]⟩⟩)
        generalize hw5 : st4 w4 w.heap.size ⟨k,u,0,⟨#[]⟩⟩=w5 at HR5 HT5 HG5
        simp only [st4] at hw5
        rw [hw5];obtain ⟨y0,y1,y2,y3⟩:=HR5.out.has;clear hw5 x0 x1 x2 x3 r0 r1 r2 r3 hfr HI4 HR4 HT4 HG4;refine bodyPost_ret (v:=(⟨k,u,0,⟨#[]⟩⟩ : It).v) ?_ rfl ⟨HG5.out,.inl ⟨_,_,HIT.out,HT5.out,rfl⟩⟩
        simp [results,Tryd.results40,go_sem,y0,y1,y2,y3]
      | false =>
        have HIT : Hid (item1 b p k=none):=Lib.hid (by rw [hit.out,if_neg (by rw [hmy]; intro h; cases h.2)])
        have hmay:=Lib.hid hmy;clear hmy;have CK:=Lib.hid (Check_any ⟨k,u,0,⟨#[]⟩⟩ w3);rw [hmay.out] at CK;obtain ⟨x0,x1,x2,x3⟩:=HI3.out.has;go_wp2_with fail;refine CK.out.mono ?_;rintro e w4 ⟨rfl,hb4⟩;have HI4:=Lib.hid (HI3.out.below hb4);have HR4:=Lib.hid (HR3.out.below hb4);have HT4:=Lib.hid (HT3.out.below hb4);have HG4:=Lib.hid (World.grownBy.trans HG3.out (grown_below hb4 _));clear hb4 x0 x1 x2 x3 CK HI3 HR3 HT3 HG3;obtain ⟨x0,x1,x2,x3⟩:=HI4.out.has;obtain ⟨r0,r1,r2,r3⟩:=HR4.out.has;have hfr:=HR4.out.fz
        rw [show erOf false=1 from rfl]
        have t1:=HT4.out.c1;go_wp2;exact ⟨rfl,HG4.out,.inr ⟨HIT.out,_,rfl⟩⟩
    · refine ⟨rfl,World.grownBy.trans HG1.out hg,.inr ⟨?_,pv,rfl⟩⟩
      rw [hit.out,if_neg (by omega)]
end Go.Proofs.YtbmcbhpkefjhbaaDoor.Pac
namespace Go.Proofs.YtbmcbhpkefjhbaaDoor.Pac
open Go.RowKit YtbmcbhpkefjhbaaDoor YtbmcbhpkefjhbaaDoor.Mem YtbmcbhpkefjhbaaDoorW.PrintWords YtbmcbhpkefjhbaaDoorW.PrintLast YtbmcbhpkefjhbaaDoorW.PrintMore
theorem ta_nil (w : World) : (Instr.typeAssert Value.nilIface 20 70 true).run Tryd.prog w=.ok (.tuple #[.agg #[.int .i64 0],.bool false]) w:=by kernel_rfl
theorem ta_short (x : Int) (w : World) : (Instr.typeAssert (Value.iface 70 (.agg #[.int .i64 x])) 20 70 true).run Tryd.prog w=.ok (.tuple #[.agg #[.int .i64 x],.bool true]) w:=by kernel_rfl
set_option maxRecDepth 100000 in
theorem tk_idle (p q r : Addr) (w : World) :
    CallsD Tryd.prog 39 #[.pointer (some p),.pointer (some q),.pointer (some r)] .returning w fun e u' w'=>e=.returned (.tuple #[])∧u'=.returning∧Below w.heap.size w w':=by
  refine callsD_of_wpS Tryd.func39 rfl fun c₀ cs hu=>?_
  rw [show (#[Value.pointer (some p),.pointer (some q),.pointer (some r)]++Array.replicate (Tryd.f39.ntmps - (#[Value.pointer (some p),.pointer (some q),.pointer (some r)]).size) undef)=#[Value.pointer (some p),.pointer (some q),.pointer (some r),undef,undef,undef,undef,undef,undef,undef,undef] from rfl]
  apply wpS_seq;apply wpS_region
  simp [wpOpsS,go_sem,recoverD,hu,Exit.thenS,ta_nil]
  apply wpS_seq;apply wpS_region
  simp [wpOpsS,go_sem,recoverD,hu,Exit.thenS]
  refine wpS_cond (t:=false) (by simp [Act.eval]) ?_
  simp only [Bool.false_eq_true,if_false]
  refine wpS_of_wp (wp_skip ?_)
  cases c₀
  simp_all [bodyPostS,results,Tryd.results39]
  exact ba_ (Below.refl _ _) _
abbrev caught (w : World) (h : Nat) (x : Int) : World:=(((w.alloc (.cells #[.int .i64 x] 70)).setCell ⟨h,0,none⟩ (.slice none 0 0)).setCell ⟨h + 1,0,none⟩ (.int .i64 0)).setCell ⟨h + 2,0,none⟩ (.int .i64 4)
set_option maxRecDepth 100000 in
theorem tk_catch (h : Nat) (x : Int) (older : List PanicEntry) (w : World) (v4 v5 v6 : Value) (h4 : w.cell? ⟨h,0,none⟩=some v4) (h5 : w.cell? ⟨h + 1,0,none⟩=some v5) (h6 : w.cell? ⟨h + 2,0,none⟩=some v6) (f4 : w.frozen? ⟨h,0,none⟩=false) (f5 : w.frozen? ⟨h + 1,0,none⟩=false) (f6 : w.frozen? ⟨h + 2,0,none⟩=false) :
    CallsD Tryd.prog 39 #[.pointer (some ⟨h,0,none⟩),.pointer (some ⟨h + 1,0,none⟩),.pointer (some ⟨h + 2,0,none⟩)] (.panicking ({ v:=.iface 70 (.agg #[.int .i64 x]),recovered:=false } :: older)) w fun e u' w'=>e=.returned (.tuple #[])∧u'=.panicking ({ v:=.iface 70 (.agg #[.int .i64 x]),recovered:=true } :: older)∧w'=caught w h x:=by
  have hlt:=wb_ w _ h6
  simp only at hlt
  have c4 : (w.alloc (.cells #[.int .i64 x] 70)).cell? ⟨h,0,none⟩=some v4:=(World.cell?_alloc_lt _ _ _ (by simp only; omega)).trans h4
  have c5 : (w.alloc (.cells #[.int .i64 x] 70)).cell? ⟨h + 1,0,none⟩=some v5:=(World.cell?_alloc_lt _ _ _ (by simp only; omega)).trans h5
  have c6 : (w.alloc (.cells #[.int .i64 x] 70)).cell? ⟨h + 2,0,none⟩=some v6:=(World.cell?_alloc_lt _ _ _ (by simp only; omega)).trans h6
  have g4 : (w.alloc (.cells #[.int .i64 x] 70)).frozen? ⟨h,0,none⟩=false:=(World.frozen?_alloc_past _ _ _ (by omega)).trans f4
  have g5 : (w.alloc (.cells #[.int .i64 x] 70)).frozen? ⟨h + 1,0,none⟩=false:=(World.frozen?_alloc_past _ _ _ (by omega)).trans f5
  have g6 : (w.alloc (.cells #[.int .i64 x] 70)).frozen? ⟨h + 2,0,none⟩=false:=(World.frozen?_alloc_past _ _ _ (by omega)).trans f6
  clear h4 h5 h6 f4 f5 f6
  unfold caught
  refine callsD_of_wpS Tryd.func39 rfl fun c₀ cs hu=>?_
  rw [show (#[Value.pointer (some ⟨h,0,none⟩),.pointer (some ⟨h + 1,0,none⟩),.pointer (some ⟨h + 2,0,none⟩)]++Array.replicate (Tryd.f39.ntmps - (#[Value.pointer (some (⟨h,0,none⟩ : Addr)),.pointer (some ⟨h + 1,0,none⟩),.pointer (some ⟨h + 2,0,none⟩)]).size) undef)=#[Value.pointer (some ⟨h,0,none⟩),.pointer (some ⟨h + 1,0,none⟩),.pointer (some ⟨h + 2,0,none⟩),undef,undef,undef,undef,undef,undef,undef,undef] from rfl]
  apply wpS_seq;apply wpS_region
  simp [wpOpsS,go_sem,recoverD,hu,Exit.thenS,ta_short]
  generalize w.alloc (.cells #[.int .i64 x] 70)=wa at *
  apply wpS_seq;apply wpS_region
  simp [wpOpsS,go_sem,recoverD,hu,Exit.thenS]
  refine wpS_cond (t:=true) (by simp [Act.eval]) ?_
  simp only [if_true]
  apply wpS_region
  simp [wpOpsS,go_sem,c4,c5,c6,g4,g5,g6,bodyPostS,results,Tryd.results39]
end Go.Proofs.YtbmcbhpkefjhbaaDoor.Pac
namespace Go.Proofs.YtbmcbhpkefjhbaaDoor.Pac
open Go.RowKit YtbmcbhpkefjhbaaDoor YtbmcbhpkefjhbaaDoor.Mem YtbmcbhpkefjhbaaDoorW.PrintWords YtbmcbhpkefjhbaaDoorW.PrintLast YtbmcbhpkefjhbaaDoorW.PrintMore
theorem _root_.Go.Proofs.YtbmcbhpkefjhbaaDoor.Dsg.RdI_at' {w : World} {A : Option Addr} {l : List Int} (h : Kd.C (Kd.int .i64) w A l.length l) {j : Nat} {e : Int} (hj : l[j]?=some e) : ∃ ad,A=some ad∧w.cell? (ad.add j)=some (.int .i64 e):=by
  obtain ⟨hjl,hje⟩:=List.getElem?_eq_some_iff.1 hj
  obtain ⟨ad,e1,hx⟩:=Kd.at_int h (j : Int) (by omega) (by omega)
  rw [Int.toNat_natCast] at hx;refine ⟨ad,e1,?_⟩;rw [hx]
  simp [rd,List.getD_eq_getElem?_getD,hj]
abbrev It.cs (a : It) : List Value:=[.int .i64 a.k,.int .i64 a.n,.float .f64 a.x,.string a.s]
def Kt : Kd It where
  sz:=4
  E:=[]
  K:=fun _ a cs=>cs=a.cs
  M:=fun _ _ _ a cs=>cs=a.cs
  K_len:=fun h=>by rw [h]; rfl
  K_one:=fun h u hu=>by rw [h] at hu; simp [It.cs] at hu; rcases hu with rfl|rfl|rfl|rfl <;> rfl
  K_below:=fun _ h=>h
  K_of_M:=fun h=>h
  M_mono:=fun _ h=>h
  M_bound:=fun h=>h
  M_move:=fun _ h=>h
  M_lower:=fun _ h=>h
theorem infoIt : (Tryd.prog.info? 51).map (fun i=>(i.zero,i.size,i.bytes))=some (some (.agg #[.int .i64 0,.int .i64 0,.float .f64 0,.string ⟨#[]⟩]),4,40):=by kernel_rfl
theorem add4 (ad : Addr) (n i : Nat) (hi : 0<i) : ad.add (n + i)=⟨(ad.add n).block,(ad.add n).off + i,none⟩:=by
  rw [show ad.add (n + i)=(ad.add n).add i from (add_add ad n i).symm]
  generalize ad.add n=p
  unfold Addr.add
  rw [if_neg (by omega)]
def GotT (w : World) (v : Value) (l : List It) : Prop:=∃ A c,v=.slice A l.length c∧l.length≤c∧RdT w A l
theorem GotT.nil (w : World) : GotT w (.slice none 0 0) []:=⟨none,0,rfl,Nat.le_refl _,fun j a h=>by simp at h⟩
def GotO (w : World) (base : Nat) (v : Value) (l : List It) : Prop:=Kd.R Kt 51 w base (fun _=>True) v l∧∀ a ∈ l,a.x<18446744073709551616
theorem GotO.nil (w : World) (base : Nat) : GotO w base (.slice none 0 0) []:=⟨Kd.R_nil _ _ _ _ _,fun a h=>by cases h⟩
def takes (b : List Int) : Nat→List Int→Option (List It × Nat)
  | p,[]=>some ([],p)
  | p,k :: ks=>match item1 b p k with
    | none=>none
    | some (a,q)=>match takes b q ks with
      | none=>none
      | some (l,r)=>some (a :: l,r)
def kindsOk (ks : List Int) : Bool:=ks.all (fun k=>decide (1≤k) && decide (k≤5))
def takeR (b ks : List Int) : List It × Int × Int :=
  if kindsOk ks=true then (match takes b 0 ks with|none=>([],0,4)|some (l,r)=>(l,(r : Int),0)) else ([],0,1)
def TakePost (b ks : List Int) (w : World) (e : Ending) (w' : World) : Prop:=∃ v,e=.returned (.tuple #[v,.int .i64 (takeR b ks).2.1,.int .i64 (takeR b ks).2.2])∧GotO w' w.heap.size v (takeR b ks).1∧Below w.heap.size w w'
theorem item1_le {b : List Int} {p q : Nat} {k : Int} {a : It} (h : item1 b p k=some (a,q)) : q≤b.length:=by
  unfold item1 at h
  split at h
  · split at h
    · rename_i h1; injection h with h; injection h with h2 h3; subst h3; exact h1.1
    · cases h
  · split at h
    · split at h
      · rename_i h1; injection h with h; injection h with h2 h3; subst h3; exact h1.2
      · cases h
    · split at h
      · rename_i h1; injection h with h; injection h with h2 h3; subst h3; exact h1.1
      · cases h
theorem item1_x {b : List Int} {p q : Nat} {k : Int} {a : It} (hb : Bytes b) (h : item1 b p k=some (a,q)) : a.x<18446744073709551616:=by
  unfold item1 at h
  split at h
  · split at h
    · rename_i h1; injection h with h; injection h with h2 h3; subst h2
      have:=num_bd ((hb.drop p).take 8)
      rw [show ((b.drop p).take 8).length=8 by rw [List.length_take,List.length_drop]; omega,show (256 : Int) ^ 8=18446744073709551616 by decide] at this
      simp only
      omega
    · cases h
  · split at h
    · split at h
      · injection h with h; injection h with h2 h3; subst h2; simp
      · cases h
    · split at h
      · injection h with h; injection h with h2 h3; subst h2; simp
      · cases h
def Took (b ks : List Int) (i : Nat) (l : List It) (p : Nat) : Prop:=l.length=i∧(∀ a ∈ l,a.x<18446744073709551616)∧p≤b.length∧takes b 0 ks=(match takes b p (ks.drop i) with|none=>none|some (m,r)=>some (l++m,r))
theorem Took.first (b ks : List Int) : Took b ks 0 [] 0:=by
  refine ⟨rfl,(fun a h=>by cases h),Nat.zero_le _,?_⟩
  rw [List.drop_zero]
  cases takes b 0 ks with
  | none=>rfl
  | some x=>rfl
theorem drop_cons {ks : List Int} {i : Nat} {k : Int} (h : ks[i]?=some k) : ks.drop i=k :: ks.drop (i + 1):=by
  obtain ⟨h1,h2⟩:=List.getElem?_eq_some_iff.1 h;rw [List.drop_eq_getElem_cons h1,h2]
theorem Took.step {b ks : List Int} {i : Nat} {l : List It} {p q : Nat} {k : Int} {a : It} (hb : Bytes b) (h : Took b ks i l p) (hk : ks[i]?=some k) (hi : item1 b p k=some (a,q)) : Took b ks (i + 1) (l++[a]) q:=by
  obtain ⟨h1,h2,h3,h4⟩:=h
  refine ⟨by rw [List.length_append,h1]; rfl,?_,item1_le hi,?_⟩
  · intro y hy
    rcases List.mem_append.1 hy with h|h
    · exact h2 y h
    · rw [List.mem_singleton.1 h]; exact item1_x hb hi
  · rw [h4,drop_cons hk]
    simp only [takes,hi]
    cases takes b q (ks.drop (i + 1)) with
    | none=>rfl
    | some x=>simp
theorem Took.stop {b ks : List Int} {i : Nat} {l : List It} {p : Nat} {k : Int} (h : Took b ks i l p) (hk : ks[i]?=some k) (hi : item1 b p k=none) : takes b 0 ks=none:=by
  rw [h.2.2.2,drop_cons hk]
  simp only [takes,hi]
theorem Took.last {b ks : List Int} {l : List It} {p : Nat} (h : Took b ks ks.length l p) : takes b 0 ks=some (l,p):=by
  rw [h.2.2.2,List.drop_length]
  simp [takes]
structure RS (w : World) (h : Nat) (v4 : Value) (v5 v6 : Int) : Prop where
  c4 : w.cell? ⟨h,0,none⟩=some v4
  c5 : w.cell? ⟨h + 1,0,none⟩=some (.int .i64 v5)
  c6 : w.cell? ⟨h + 2,0,none⟩=some (.int .i64 v6)
  f4 : w.frozen? ⟨h,0,none⟩=false
  f5 : w.frozen? ⟨h + 1,0,none⟩=false
  f6 : w.frozen? ⟨h + 2,0,none⟩=false
theorem RS.below {w w' : World} {h : Nat} {v4 : Value} {v5 v6 : Int} (r : RS w h v4 v5 v6) (hb : Below w.heap.size w w') : RS w' h v4 v5 v6 where
  c4:=(hb.cell (wb_ w _ r.c4)).trans r.c4
  c5:=(hb.cell (wb_ w _ r.c5)).trans r.c5
  c6:=(hb.cell (wb_ w _ r.c6)).trans r.c6
  f4:=(hb.frozen (wb_ w _ r.c4)).trans r.f4
  f5:=(hb.frozen (wb_ w _ r.c5)).trans r.f5
  f6:=(hb.frozen (wb_ w _ r.c6)).trans r.f6
theorem nb {a b i j : Nat} (h : a≠b) : (⟨a,i,none⟩ : Addr)≠⟨b,j,none⟩:=by intro e; injection e with e; exact h e
theorem RS.grown {w w' : World} {h g : Nat} {v4 : Value} {v5 v6 : Int} (r : RS w h v4 v5 v6) (hg : w.grownBy w' (some g)) (hh : h + 2<g∨g<h) : RS w' h v4 v5 v6 where
  c4:=hg.cell r.c4 (by intro e; injection e with e; simp only at e; omega)
  c5:=hg.cell r.c5 (by intro e; injection e with e; simp only at e; omega)
  c6:=hg.cell r.c6 (by intro e; injection e with e; simp only at e; omega)
  f4:=(hg.frozen_far ⟨h,0,none⟩ (wb_ w _ r.c4) (by intro e; injection e with e; simp only at e; omega)).trans r.f4
  f5:=(hg.frozen_far ⟨h + 1,0,none⟩ (wb_ w _ r.c5) (by intro e; injection e with e; simp only at e; omega)).trans r.f5
  f6:=(hg.frozen_far ⟨h + 2,0,none⟩ (wb_ w _ r.c6) (by intro e; injection e with e; simp only at e; omega)).trans r.f6
theorem RS.s4 {w : World} {h : Nat} {v4 : Value} {v5 v6 : Int} (r : RS w h v4 v5 v6) (v : Value) : RS (w.setCell ⟨h,0,none⟩ v) h v v5 v6 where
  c4:=World.cell?_setCell_same _ _ _ r.c4
  c5:=(World.cell?_setCell_other _ _ _ _ (nb (by omega))).trans r.c5
  c6:=(World.cell?_setCell_other _ _ _ _ (nb (by omega))).trans r.c6
  f4:=by rw [World.frozen?_setCell]; exact r.f4
  f5:=by rw [World.frozen?_setCell]; exact r.f5
  f6:=by rw [World.frozen?_setCell]; exact r.f6
theorem RS.s5 {w : World} {h : Nat} {v4 : Value} {v5 v6 : Int} (r : RS w h v4 v5 v6) (v : Int) : RS (w.setCell ⟨h + 1,0,none⟩ (.int .i64 v)) h v4 v v6 where
  c5:=World.cell?_setCell_same _ _ _ r.c5
  c4:=(World.cell?_setCell_other _ _ _ _ (nb (by omega))).trans r.c4
  c6:=(World.cell?_setCell_other _ _ _ _ (nb (by omega))).trans r.c6
  f4:=by rw [World.frozen?_setCell]; exact r.f4
  f5:=by rw [World.frozen?_setCell]; exact r.f5
  f6:=by rw [World.frozen?_setCell]; exact r.f6
theorem RS.s6 {w : World} {h : Nat} {v4 : Value} {v5 v6 : Int} (r : RS w h v4 v5 v6) (v : Int) : RS (w.setCell ⟨h + 2,0,none⟩ (.int .i64 v)) h v4 v5 v where
  c6:=World.cell?_setCell_same _ _ _ r.c6
  c4:=(World.cell?_setCell_other _ _ _ _ (nb (by omega))).trans r.c4
  c5:=(World.cell?_setCell_other _ _ _ _ (nb (by omega))).trans r.c5
  f4:=by rw [World.frozen?_setCell]; exact r.f4
  f5:=by rw [World.frozen?_setCell]; exact r.f5
  f6:=by rw [World.frozen?_setCell]; exact r.f6
abbrev rw3 (w : World) : World:=((w.alloc (.cells #[.slice none 0 0] 45)).alloc (.cells #[.int .i64 0] 3)).alloc (.cells #[.int .i64 0] 27)
theorem sz_alloc (w : World) (o : Obj) : (w.alloc o).heap.size=w.heap.size + 1:=by show (w.heap.push _).size=_; simp
theorem RS.first (w : World) : RS (rw3 w) w.heap.size (.slice none 0 0) 0 0:=by
  constructor
  · rw [World.cell?_alloc_lt _ _ _ (by simp only [sz_alloc]; omega),World.cell?_alloc_lt _ _ _ (by simp only [sz_alloc]; omega)]; exact World.cell?_alloc_new _ _ _ _
  · rw [World.cell?_alloc_lt _ _ _ (by simp only [sz_alloc]; omega),show w.heap.size + 1=(w.alloc (.cells #[.slice none 0 0] 45)).heap.size from (sz_alloc _ _).symm]; exact World.cell?_alloc_new _ _ _ _
  · rw [show w.heap.size + 2=((w.alloc (.cells #[.slice none 0 0] 45)).alloc (.cells #[.int .i64 0] 3)).heap.size by rw [sz_alloc,sz_alloc]]; exact World.cell?_alloc_new _ _ _ _
  · rw [World.frozen?_alloc_past _ _ _ (by simp only [sz_alloc]; omega),World.frozen?_alloc_past _ _ _ (by simp only [sz_alloc]; omega)]; exact frozen_new _ _ _ _
  · rw [World.frozen?_alloc_past _ _ _ (by simp only [sz_alloc]; omega),show w.heap.size + 1=(w.alloc (.cells #[.slice none 0 0] 45)).heap.size from (sz_alloc _ _).symm]; exact frozen_new _ _ _ _
  · rw [show w.heap.size + 2=((w.alloc (.cells #[.slice none 0 0] 45)).alloc (.cells #[.int .i64 0] 3)).heap.size by rw [sz_alloc,sz_alloc]]; exact frozen_new _ _ _ _
theorem RS.belowB {w w' : World} {h N : Nat} {v4 : Value} {v5 v6 : Int} (r : RS w h v4 v5 v6) (hb : Below N w w') (hN : h + 2<N) : RS w' h v4 v5 v6 where
  c4:=(hb.cell (by simp only; omega)).trans r.c4
  c5:=(hb.cell (by simp only; omega)).trans r.c5
  c6:=(hb.cell (by simp only; omega)).trans r.c6
  f4:=(hb.frozen (by simp only; omega)).trans r.f4
  f5:=(hb.frozen (by simp only; omega)).trans r.f5
  f6:=(hb.frozen (by simp only; omega)).trans r.f6
theorem RdB_belowB {w w' : World} {B : Option Addr} {b : List Int} {N : Nat} (h : RdB w B b) (hb : Below N w w') (hf : ∀ ad,B=some ad→0<b.length→ad.block<N) : RdB w' B b:=by
  obtain ⟨h1,h2,h3⟩:=Kd.reads_of_C (d:=(0 : Int)) h
  refine Kd.C_of_reads (h1:=fun _=>rfl) (d:=(0 : Int)) ⟨h1,h2,fun hp=>?_⟩
  obtain ⟨ad,e,hc⟩:=h3 hp
  refine ⟨ad,e,fun j hj=>(hb.cell ?_).trans (hc j hj)⟩
  rw [show (ad.add j).block=ad.block by unfold Addr.add; split <;> rfl]
  exact hf ad e hp
theorem TK.belowB {w w' : World} {g : Nat} {B : Option Addr} {c : Nat} {b : List Int} {p N : Nat} (t : TK w g B c b p) (hb : Below N w w') (hg : g<N) (hf : ∀ ad,B=some ad→0<b.length→ad.block<N) : TK w' g B c b p where
  c0:=(hb.cell (by simp only; omega)).trans t.c0
  c1:=(hb.cell (by simp only; omega)).trans t.c1
  fz:=(hb.frozen (by simp only; omega)).trans t.fz
  rd:=RdB_belowB t.rd hb hf
  far:=t.far
  cap:=t.cap
theorem TK.first {w : World} {B : Option Addr} {c : Nat} {b : List Int} (hr : RdB w B b) (hc : b.length≤c) : TK (w.alloc (.cells #[.slice B b.length c,.int .i64 0] 74)) w.heap.size B c b 0 where
  c0:=World.cell?_alloc_new _ _ _ _
  c1:=World.cell?_alloc_new _ _ _ _
  fz:=frozen_new _ _ _ _
  rd:=Kd.C_alloc hr _
  far:=fun ad e hp=>Nat.ne_of_lt (RdB.lt hr ad e hp)
  cap:=hc
theorem below_grown' {N g : Nat} {w w1 w2 : World} (h : Below N w w1) (hg : w1.grownBy w2 (some g)) (h1 : N≤w1.heap.size) (h2 : N≤g) : Below N w w2 :=
  h.trans ⟨hg.os,hg.tape,hg.output,hg.size,fun k hk=>hg.block k (by omega) (by intro e; injection e with e; omega)⟩
theorem goesP_ {P : Program} {ops : Array Oper} {Q : Exit → Act → World → Prop} {oi : Oper} {N : Option Tmp} {a : Act} {w : World} {K : Act → World → Prop} {f : FuncId} {fn : Func} {asx : Array Operand} {ts : Array TypeId} (hf : P.funcs[f]? = some fn) (hname : (fn.name == "runtime.NumGoroutine") = false) (hb : fn.body.isSome = true) (args : Array Value)
    (hw : Region.wanted oi (yielded ops a.tmps)=true) (hN : oi.dst=N) (hop : oi.op=.call { callee:=.value (.func f),args:=asx,argTypes:=ts }) (hargs : asx.map a.eval=args)
    (h : Calls P f args w fun e w'=>(∃ v,e=.returned v∧K (a.put N v) w')∨(∃ ch,e=.panicked ch∧Q (.panic ch) a w')) : if Region.wanted oi (yielded ops a.tmps)=true then Oper.wp P oi a w K Q else K (a.put N undef) w:=by
  have he:=enters_ hf hname hb args w
  have hrun : (execOp a.eval oi).run P w=.ok (.enter f args) w:=by
    unfold execOp
    simp [hop,resolve,Deferred.ofValue,invoke,Act.eval,hargs,he]
  rw [if_pos hw];subst hN
  unfold Oper.wp
  rw [hrun,Oper.upon_enter]
  refine h.mono fun e w'' hh=>?_
  rcases hh with ⟨v,rfl,hk⟩ | ⟨ch,rfl,hk⟩
  · exact hk
  · exact hk
abbrev dfr (h : Nat) : List Deferred:=[{ target:=Target.fn (Fn.func 39) #[.pointer (some ⟨h,0,none⟩),.pointer (some ⟨h + 1,0,none⟩),.pointer (some ⟨h + 2,0,none⟩)],args:=#[] }]
theorem take_results {w : World} {h : Nat} {A : Option Addr} {n c : Nat} {v5 v6 : Int} (r : RS w h (.slice A n c) v5 v6) (tmps : Array Value) (h4 : tmps[4]?=some (.pointer (some ⟨h,0,none⟩))) (h5 : tmps[5]?=some (.pointer (some ⟨h + 1,0,none⟩))) (h6 : tmps[6]?=some (.pointer (some ⟨h + 2,0,none⟩))) : (results Tryd.f22 tmps).run Tryd.prog w=.ok (.tuple #[.slice A n c,.int .i64 v5,.int .i64 v6]) w:=by
  have e4 : tmps.getD 4 undef=.pointer (some ⟨h,0,none⟩):=by simp [Array.getD_eq_getD_getElem?,h4]
  have e5 : tmps.getD 5 undef=.pointer (some ⟨h + 1,0,none⟩):=by simp [Array.getD_eq_getD_getElem?,h5]
  have e6 : tmps.getD 6 undef=.pointer (some ⟨h + 2,0,none⟩):=by simp [Array.getD_eq_getD_getElem?,h6]
  simp [results,Tryd.results22,go_sem,h4,h5,h6,e4,e5,e6,r.c4,r.c5,r.c6]
theorem take_panics {b ks : List Int} {w w3 : World} {A : Option Addr} {n c : Nat} {v5 v6 : Int} {x : Int} (act : Act) (hd : act.defers=dfr w.heap.size) (h4 : act.tmps[4]?=some (.pointer (some ⟨w.heap.size,0,none⟩))) (h5 : act.tmps[5]?=some (.pointer (some ⟨w.heap.size + 1,0,none⟩))) (h6 : act.tmps[6]?=some (.pointer (some ⟨w.heap.size + 2,0,none⟩)))
    (r : RS w3 w.heap.size (.slice A n c) v5 v6) (hB : Below w.heap.size w w3) (hres : takeR b ks=([],0,4)) : bodyPostD Tryd.prog Tryd.f22 (fun e w'=>TakePost b ks w e w') (.panic [{ v:=.iface 70 (.agg #[.int .i64 x]),recovered:=false }]) act w3:=by
  show Leaves _ _ _ _ _ _ _
  rw [hd]
  refine leaves_cons (f:=39) (args:=#[.pointer (some ⟨w.heap.size,0,none⟩),.pointer (some ⟨w.heap.size + 1,0,none⟩),.pointer (some ⟨w.heap.size + 2,0,none⟩)]) (by simp) (by simp [go_sem]) ?_
  refine (tk_catch w.heap.size x [] w3 _ _ _ r.c4 r.c5 r.c6 r.f4 r.f5 r.f6).mono ?_;rintro e u' w'' ⟨rfl,rfl,rfl⟩;have r5 : RS (caught w3 w.heap.size x) w.heap.size (.slice none 0 0) 0 4:=(((r.below (ba_ (Below.refl _ _) _)).s4 _).s5 _).s6 _
  have hb5 : Below w.heap.size w (caught w3 w.heap.size x):=(((ba_ hB _).setCell (p:=⟨w.heap.size,0,none⟩) (Nat.le_refl _) _).setCell (p:=⟨w.heap.size + 1,0,none⟩) (Nat.le_succ _) _).setCell (p:=⟨w.heap.size + 2,0,none⟩) (by simp only; omega) _
  simp only [settle]
  refine ⟨_,take_results r5 _ h4 h5 h6,.slice none 0 0,?_,?_,hb5⟩
  · rw [hres]
  · rw [hres]; exact GotO.nil _ _
theorem take_returns {b ks : List Int} {w w3 : World} {l : List It} {A : Option Addr} {c : Nat} {v5 v6 : Int} (act : Act) (hd : act.defers=dfr w.heap.size) (h4 : act.tmps[4]?=some (.pointer (some ⟨w.heap.size,0,none⟩))) (h5 : act.tmps[5]?=some (.pointer (some ⟨w.heap.size + 1,0,none⟩))) (h6 : act.tmps[6]?=some (.pointer (some ⟨w.heap.size + 2,0,none⟩)))
    (r : RS w3 w.heap.size (.slice A l.length c) v5 v6) (hB : Below w.heap.size w w3) (hG : Kd.R Kt 51 w3 w.heap.size (fun _=>True) (.slice A l.length c) l) (hl : ∀ a ∈ l,a.x<18446744073709551616) (hres : takeR b ks=(l,v5,v6)) : bodyPostD Tryd.prog Tryd.f22 (fun e w'=>TakePost b ks w e w') .ret act w3:=by
  show Leaves _ _ _ _ _ _ _
  rw [hd]
  refine leaves_cons (f:=39) (args:=#[.pointer (some ⟨w.heap.size,0,none⟩),.pointer (some ⟨w.heap.size + 1,0,none⟩),.pointer (some ⟨w.heap.size + 2,0,none⟩)]) (by simp) (by simp [go_sem]) ?_
  refine (tk_idle ⟨w.heap.size,0,none⟩ ⟨w.heap.size + 1,0,none⟩ ⟨w.heap.size + 2,0,none⟩ w3).mono ?_;rintro e u' w'' ⟨rfl,rfl,hb⟩
  simp only [settle]
  refine ⟨_,take_results (r.below hb) _ h4 h5 h6,.slice A l.length c,?_,?_,bp_ hB hb⟩
  · rw [hres]
  · rw [hres]; exact ⟨Kd.R_below hG hb,hl⟩
theorem leaves_tmps {P : Program} {fn : Func} {R : Ending→World→Prop} {t t' : Array Value} (ht : ∀ w,(results fn t).run P w=(results fn t').run P w) : ∀ (ds : List Deferred) (u : FrameMode) (w : World),Leaves P fn t R ds u w→Leaves P fn t' R ds u w:=by
  intro ds
  induction ds with
  | nil =>
    intro u w h
    cases u with
    | returning =>
      obtain ⟨v,h1,h2⟩:=h;exact ⟨v,(ht w) ▸ h1,h2⟩
    | panicking chain=>exact h
    | run=>exact h
  | cons d ds ih =>
    intro u w h;obtain ⟨hu,fv,cap,f,args,h1,h2,h3⟩:=h;refine ⟨hu,fv,cap,f,args,h1,h2,h3.mono ?_⟩;intro e u' w' hh
    cases e with
    | returned v=>exact ih _ _ hh
    | panicked chain=>exact ih _ _ hh
    | outgrown=>exact hh
theorem take_put {R : Ending→World→Prop} {d : Tmp} (hd : d≠4∧d≠5∧d≠6) {v : Value} {ch : List PanicEntry} {a : Act} {w : World} (h : bodyPostD Tryd.prog Tryd.f22 R (.panic ch) (a.put (some d) v) w) : bodyPostD Tryd.prog Tryd.f22 R (.panic ch) a w:=by
  refine leaves_tmps (t:=(a.put (some d) v).tmps) (t':=a.tmps) (fun w=>?_) _ _ _ h
  have e : ∀ j,j≠d→(a.put (some d) v).tmps.getD j undef=a.tmps.getD j undef:=by
    intro j hj
    simp [Act.put,Array.getD_eq_getD_getElem?,Array.getElem?_setIfInBounds,Ne.symm hj]
  have e2 : ∀ j : Nat,j≠d→(a.tmps.setIfInBounds d v)[j]?=a.tmps[j]?:=by
    intro j hj;rw [Array.getElem?_setIfInBounds,if_neg (Ne.symm hj)]
  simp [results,Tryd.results22,go_sem,e 4 (Ne.symm hd.1),e 5 (Ne.symm hd.2.1),e 6 (Ne.symm hd.2.2),e2 4 (Ne.symm hd.1),e2 5 (Ne.symm hd.2.1),e2 6 (Ne.symm hd.2.2)]
def Take12.T : Bool × List (List Nat × List Nat):=(true,[([],[]),([],[]),([],[]),([1,2],[1,2]),([3],[3]),([0,4,3],[0,4]),([5,5,0,1,2,3,4,5],[5])])
def Take12.B : List Nat:=[0,0,0,6,14,31,63]
theorem Take12.tab : rtab .any (opsOf Tryd.f22 12)=Take12.T:=by kernel_rfl
theorem Take12.bits : waitsOk Take12.T.2 Take12.B=true:=by kernel_rfl
def Take14.T : Bool × List (List Nat × List Nat):=(true,[([],[]),([],[]),([1],[1]),([2],[2]),([3],[3]),([0,0],[0]),([4,5,0,1,2,3,4,5],[4]),([6,0,1,2,3,4,5,6],[])])
def Take14.B : List Nat:=[0,0,2,6,14,1,63,127]
theorem Take14.tab : rtab .any (opsOf Tryd.f22 14)=Take14.T:=by kernel_rfl
theorem Take14.bits : waitsOk Take14.T.2 Take14.B=true:=by kernel_rfl
set_option maxRecDepth 100000 in
set_option maxHeartbeats 2000000 in
theorem Take_any (B : Option Addr) (c : Nat) (b : List Int) (K : Option Addr) (d : Nat) (ks : List Int) (w : World) (hr : RdB w B b) (hby : Bytes b) (hb : b.length≤1000000) (hc : b.length≤c) (hk : Kd.C (Kd.int .i64) w K ks.length ks) (hkl : ks.length≤1000000) :
    Calls Tryd.prog 22 #[.slice B b.length c,.slice K ks.length d] w fun e w'=>TakePost b ks w e w':=by
  have hmf : ∀ (fn : Fn) (first cap : Array Value) (w : World),(Instr.makeFunc fn first cap).run Tryd.prog w=.ok (.func fn first cap) w:=fun _ _ _ _=>rfl
  have HR:=Lib.hid hr;have HK:=Lib.hid hk;have HBy:=Lib.hid hby;clear hr hk hby;go_enter_defers Tryd.func22,Tryd.ntmps22;go_wp2
  rw [show w.heap.size + 1 + 1=w.heap.size + 2 from rfl]
  have HS:=Lib.hid (RS.first w);have HB : Hid (Below w.heap.size w (rw3 w)):=Lib.hid (ba_ (ba_ (ba_ (Below.refl _ _) _) _) _)
  have hsz0 : (rw3 w).heap.size=w.heap.size + 3:=by simp only [rw3,sz_alloc]
  have HSZ0:=Lib.hid hsz0;clear hsz0
  generalize hw0 : rw3 w=w0 at HS HB HSZ0
  simp only [rw3] at hw0
  rw [hw0];clear hw0
  go_loopg [8,14] ks.length (fun kk v8 v14 wq=>∃ i : Nat,i≤ks.length∧kk=ks.length - i∧v14=.int .i64 (i : Int)∧Hid (∀ (j : Nat) (x : Int),j<i→ks[j]?=some x→1≤x∧x≤5)∧wq=w0)
  case atStart=>exact ⟨0,Nat.zero_le _,rfl,rfl,Lib.hid (fun j x h=>absurd h (Nat.not_lt_zero _)),rfl⟩
  case round =>
    obtain ⟨i,hi,rfl,rfl,HO,rfl⟩:=hrel;have i0 : (0 : Int)≤(i : Int):=Int.natCast_nonneg _
    by_cases hlt : i<ks.length
    · have hd : decide (i<ks.length)=true:=dt_ hlt
      have i1 : (i : Int)<(ks.length : Int):=by omega
      obtain ⟨k,hk⟩ : ∃ k,ks[i]?=some k:=⟨_,List.getElem?_eq_getElem hlt⟩
      obtain ⟨ad,rfl,y⟩:=Dsg.RdI_at' (Kd.C_below HK.out HB.out) hk;have HKI:=Lib.hid hk
      by_cases hok : 1≤k∧k≤5
      · have e1 : decide (k<1)=false:=df_ (by omega)
        have e2 : decide ((5 : Int)<k)=false:=df_ (by omega)
        clear hk;go_wp2;go_roundg (ks.length - (i + 1))
        case measure=>omega
        case rel =>
          refine ⟨i + 1,by omega,rfl,by go_num,Lib.hid (fun j x hj hx=>?_),rfl⟩
          by_cases e : j=i
          · rw [e,HKI.out] at hx
            injection hx with hx
            rw [← hx];exact hok
          · exact HO.out j x (by omega) hx
      · have hbad : Hid (takeR b ks=([],0,1)):=Lib.hid (by
          unfold takeR kindsOk
          rw [if_neg];rw [List.all_eq_true];intro h;have:=h k (List.mem_of_getElem? hk)
          simp at this
          omega)
        have hcs : decide (k<1)=true∨(decide (k<1)=false∧decide ((5 : Int)<k)=true):=by
          by_cases h : k<1
          · exact .inl (dt_ h)
          · exact .inr ⟨df_ h,dt_ (by omega)⟩
        obtain ⟨c4,c5,c6,f4,f5,f6⟩:=HS.out;clear hk hok;have HS2:=Lib.hid (((HS.out.s4 (.slice none 0 0)).s5 0).s6 1)
        have HB2:=Lib.hid (((HB.out.setCell (p:=⟨w.heap.size,0,none⟩) (Nat.le_refl _) (.slice none 0 0)).setCell (p:=⟨w.heap.size + 1,0,none⟩) (Nat.le_succ _) (.int .i64 0)).setCell (p:=⟨w.heap.size + 2,0,none⟩) (by simp only; omega) (.int .i64 1))
        rcases hcs with e1 | ⟨e1,e2⟩
        all_goals go_wp2
        all_goals generalize ((wr.setCell _ _).setCell _ _).setCell _ _=w5 at HS2 HB2 ⊢
        all_goals refine ⟨_,take_results HS2.out _ rfl rfl rfl,.slice none 0 0,?_,?_,HB2.out⟩
        all_goals rw [hbad.out]
        all_goals exact GotO.nil _ _
    · have hd : decide (i<ks.length)=false:=df_ hlt
      obtain rfl : i=ks.length:=by omega
      clear hlt hd i0;have HRB:=Lib.hid (RdB_belowB HR.out HB.out (RdB.lt HR.out));have HTK:=Lib.hid (TK.first HRB.out hc);have HFAR:=Lib.hid (RdB.lt HR.out);have HS1:=Lib.hid (HS.out.below (ba_ (Below.refl _ _) (.cells #[.slice B b.length c,.int .i64 0] 74)));have HB1 : Hid (Below w.heap.size w (wr.alloc (.cells #[.slice B b.length c,.int .i64 0] 74))):=Lib.hid (ba_ HB.out _);have HSZ1:=Lib.hid (sz_alloc wr (.cells #[.slice B b.length c,.int .i64 0] 74));go_wp2;have hsz1:=HSZ1.out;clear HSZ1
      generalize wr.alloc (.cells #[.slice B b.length c,.int .i64 0] 74)=w1 at HTK HS1 HB1 hsz1 ⊢
      have hg3 : w.heap.size + 3≤wr.heap.size:=by have:=HSZ0.out; omega
      clear HSZ0
      generalize wr.heap.size=g at *
      have hsz1' : g + 1≤w1.heap.size:=by omega
      clear hsz1
      have HROW : Hid (Kd.R Kt 51 w1 (g + 1) (fun _=>True) (.slice none 0 0) []):=Lib.hid (Kd.R_nil _ _ _ _ _)
      have HKO : Hid (kindsOk ks=true):=Lib.hid (by
        unfold kindsOk
        rw [List.all_eq_true];intro x hx;obtain ⟨j,hj⟩:=List.mem_iff_getElem?.1 hx;have:=HO.out j x (List.getElem?_eq_some_iff.1 hj).1 hj
        simp
        omega)
      have HSZ : Hid (g + 1≤w1.heap.size):=Lib.hid hsz1';clear HS HB HRB;have HKW:=Lib.hid (Kd.C_below HK.out HB1.out)
      go_loopg [11,31] ks.length (fun kk v11 v31 wq=>∃ (i : Nat) (vl : Value) (l : List It) (p : Nat),i≤ks.length∧kk=ks.length - i∧v31=.int .i64 (i : Int)∧Hid (Took b ks i l p)∧Hid (RS wq w.heap.size vl 0 0)∧Hid (TK wq g B c b p)∧Hid (Kd.R Kt 51 wq (g + 1) (fun _=>True) vl l)∧Hid (Below w.heap.size w wq)∧Hid (g + 1≤wq.heap.size))
      case atStart=>exact ⟨0,_,[],0,Nat.zero_le _,rfl,rfl,Lib.hid (Took.first b ks),HS1,HTK,HROW,HB1,HSZ⟩
      case round =>
        clear HS1 HTK HROW HB1 HKW hsz1' HSZ;obtain ⟨i,vl,l,p,hi,rfl,rfl,HTO,HS,HT,HROW,HB,HSZ⟩:=hrel;have i0 : (0 : Int)≤(i : Int):=Int.natCast_nonneg _
        by_cases hlt : i<ks.length
        · have hd : decide (i<ks.length)=true:=dt_ hlt
          have i1 : (i : Int)<(ks.length : Int):=by omega
          obtain ⟨k,hk⟩ : ∃ k,ks[i]?=some k:=⟨_,List.getElem?_eq_getElem hlt⟩
          obtain ⟨ad,rfl,y⟩:=Dsg.RdI_at' (Kd.C_below HK.out HB.out) hk;have hok:=HO.out i k hlt hk;have HKI:=Lib.hid hk;clear hk;obtain ⟨A0,cl,rfl,hcl,_⟩:=Kd.R_reads HROW.out;have HRB:=Lib.hid (Kd.R_base HROW.out);have HLEN : Hid (l.length=i):=Lib.hid HTO.out.1;have hpb:=HTO.out.2.2.1
          have HPN : Hid (item1 b p k=none→takeR b ks=([],0,4)):=Lib.hid (fun h=>by
            unfold takeR
            rw [if_pos HKO.out,HTO.out.stop HKI.out h])
          go_wp2;clear y;have HBo:=Lib.hid (be_ (Below.refl wr.heap.size wr))
          have HSx : Hid (∀ wx,Below wr.heap.size wr wx→wx.cell? ⟨w.heap.size,0,none⟩=some (.slice A0 l.length cl)):=Lib.hid (fun wx h=>(HS.out.below h).c4)
          refine start_ (n:=7) (S:=fun wx=>wx.cell? ⟨w.heap.size,0,none⟩=some (.slice A0 l.length cl)) (ds:=[6]) #[false,false,false,false,false,false,false] (by kernel_rfl) rfl rfl (HSx.out _ HBo.out) (fun hHeld=>?_)
          refine with_tabW Take12.tab Take12.bits (fun HT_ HW_=>?_)
          generalize wr.drew=wD at HBo hHeld ⊢
          refine take_ (i:=0) (N:=(some 35)) (v:=?_) (a':=?_) #[true,false,false,false,false,false,false] rfl rfl (take_ofW HT_.out HW_.out (by kernel_rfl)) (fun _ _ _ h=>take_put (by decide) h) (Or.inl ⟨by rfl,?_⟩) hHeld ?_ ?_;rotate_left;(rintro w' s0;go_simp;with_reducible rfl);rotate_left;(simp only [Act.put,u1_,u2_,u3_,i64_w,i32_w];rfl)
          refine pure_ (i:=1) (N:=(some 36)) (v:=?_) (a':=?_) #[true,true,false,false,false,false,false] rfl rfl (any_of HT_.out (by kernel_rfl)) (fun _ _ _ h=>take_put (by decide) h) (Or.inl ⟨by rfl,?_⟩) ?_ ?_;rotate_left;(intro w';go_simp;with_reducible rfl);rotate_left;(simp only [Act.put,u1_,u2_,u3_,i64_w,i32_w];rfl)
          refine pure_ (i:=2) (N:=(some 37)) (v:=?_) (a':=?_) #[true,true,true,false,false,false,false] rfl rfl (any_of HT_.out (by kernel_rfl)) (fun _ _ _ h=>take_put (by decide) h) (Or.inl ⟨by rfl,?_⟩) ?_ ?_;rotate_left;(intro w';go_simp;with_reducible rfl);rotate_left;(simp only [Act.put,u1_,u2_,u3_,i64_w,i32_w];rfl)
          refine one_ (i:=3) (N:=(some 38)) #[true,true,true,true,false,false,false] rfl rfl (one_of HT_.out (by kernel_rfl)) (by decide) (fun K hK=>?_)
          have HT1:=Lib.hid (HT.out.below HBo.out);have HS1:=Lib.hid (HS.out.below HBo.out);have HB1:=Lib.hid (bp_ HB.out HBo.out);have HR1:=Lib.hid (Kd.R_below HROW.out HBo.out);have HZ1:=Lib.hid (Nat.le_trans HSZ.out (bz_ HBo.out))
          refine goesP_ Tryd.func40 (by kernel_rfl) rfl #[.pointer (some ⟨g,0,none⟩),.int .i64 k] (by rfl) rfl rfl (by (try simp only [List.map_toArray,List.map_cons,List.map_nil]); first|done|rfl) ?_
          refine (tk_item _ g B c b p k HT1.out HBy.out hb hpb hok).mono ?_;rintro e w3 ⟨hg,hpost⟩
          have HS3:=Lib.hid (HS1.out.grown hg (by omega))
          have HB3:=Lib.hid (below_grown' HB1.out hg (by have:=HZ1.out; omega) (by omega))
          have HR3:=Lib.hid (Kd.R_grown2 HR1.out rfl hg (fun k2 hk2 he=>by injection hk2 with hk2; have:=HRB.out k2 he.symm; omega))
          have HZ3:=Lib.hid (Nat.le_trans HZ1.out hg.size);clear hg
          rcases hpost with ⟨a,q,hi1,hT,rfl⟩ | ⟨hi1,pv,rfl⟩
          rotate_left;exact .inr ⟨_,rfl,take_panics _ rfl rfl rfl rfl HS3.out HB3.out (HPN.out hi1)⟩;refine .inl ⟨_,rfl,?_⟩;have HT3:=Lib.hid hT;have HTO3:=Lib.hid (HTO.out.step HBy.out HKI.out hi1);clear hT hi1
          refine hK.out _ _ (HS3.out.c4) (fun hHeld=>?_)
          clear hK K
          refine norm_ (a':=?_) ?_ ?_;rotate_left;(show Act.put _ (some 38) _=_;simp only [Act.put,u1_,u2_,u3_,i64_w,i32_w];rfl)
          refine one_ (i:=4) (N:=(some 39)) #[true,true,true,true,true,false,false] rfl rfl (one_of HT_.out (by kernel_rfl)) (by decide) (fun K hK=>?_)
          refine value_ (w1:=?_) (v:=?_) (by rfl) rfl ?_ ?_
          rotate_left 2
          · go_simp
            constructor
            · rfl
            · rfl
          refine hK.out _ _ ((HS3.out.below (ba_ (Below.refl _ _) _)).c4) (fun hHeld=>?_)
          clear hK K
          refine norm_ (a':=?_) ?_ ?_;rotate_left;(show Act.put _ (some 39) _=_;simp only [Act.put,u1_,u2_,u3_,i64_w,i32_w];rfl)
          refine one_ (i:=5) (N:=(some 40)) #[true,true,true,true,true,true,false] rfl rfl (one_of HT_.out (by kernel_rfl)) (by decide) (fun K hK=>?_)
          refine Kd.R_append_step Kt (w0:=w3) (g + 1) (by rfl) (.tmp 35) (.tmp 39) 45 51 (.agg #[.int .i64 0,.int .i64 0,.float .f64 0,.string ⟨#[]⟩]) 40 (by rfl) Tryd.underlying45 infoIt rfl (by decide) (by omega) (.slice A0 l.length cl) l a a.cs (fun _=>True) (fun _=>False) (by rfl) (by rfl) rfl (fun _ h=>h.elim) (fun _ _=>trivial) HR3.out (Below.refl _ _) HZ3.out (by have:=HLEN.out; omega) ?_
          intro v40 w40 ho hb4 hgr hat;obtain ⟨A4,c4,rfl,hc4,_⟩:=Kd.R_reads ho;have HO40:=Lib.hid ho
          have HS40:=Lib.hid (HS3.out.belowB hb4 (by omega))
          have HT40:=Lib.hid (HT3.out.belowB hb4 (by omega) (fun ad e h0=>by have:=HFAR.out ad e h0; omega))
          have HB40:=Lib.hid (HB3.out.trans ⟨hb4.os,hb4.tape,hb4.output,hb4.size,fun k2 hk2=>hb4.block k2 (by omega)⟩)
          have HZ40:=Lib.hid (Nat.le_trans HZ3.out hb4.size);clear ho hb4 hgr hat
          refine hK.out _ _ (HS40.out.c4) (fun hHeld=>?_)
          clear hK K
          refine norm_ (a':=?_) ?_ ?_;rotate_left;(show Act.put _ (some 40) _=_;simp only [Act.put,u1_,u2_,u3_,i64_w,i32_w];rfl)
          refine last_ (i:=6) (N:=none) #[true,true,true,true,true,true,true] rfl rfl (one_of HT_.out (by kernel_rfl)) (by decide) (fun K hK=>?_)
          have c40:=HS40.out.c4;have f40:=HS40.out.f4
          refine skip_ (w1:=w40.setCell ⟨w.heap.size,0,none⟩ (.slice A4 (l++[a]).length c4)) (by rfl) (by rfl) ?_ ?_
          (go_simp; try rfl);refine hK.out _ _ ?_;clear hK K;refine done_ (done_of HT_.out (by kernel_rfl)) ?_;have HS5:=Lib.hid (HS40.out.s4 (.slice A4 (l++[a]).length c4))
          have HT5:=Lib.hid (HT40.out.other (h:=w.heap.size) (by omega) (fun ad e h0=>Nat.ne_of_lt (HFAR.out ad e h0)) 0 (.slice A4 (l++[a]).length c4))
          have HR5:=Lib.hid (Kd.R_grown2 HO40.out rfl (grown_set w40 w.heap.size 0 (.slice A4 (l++[a]).length c4)) (fun k2 hk2 he=>by injection hk2 with hk2; have:=Kd.R_base HO40.out k2 he.symm; omega))
          have HB5:=Lib.hid (HB40.out.setCell (p:=⟨w.heap.size,0,none⟩) (Nat.le_refl _) (.slice A4 (l++[a]).length c4))
          have HZ5 : Hid (g + 1≤(w40.setCell ⟨w.heap.size,0,none⟩ (.slice A4 (l++[a]).length c4)).heap.size):=Lib.hid (by rw [World.size_setCell]; exact HZ40.out)
          simp only [List.length_append,List.length_singleton] at HS5 HT5 HR5 HB5 HZ5
          go_wp2;go_roundg (ks.length - (i + 1))
          case measure=>omega
          case rel=>exact ⟨i + 1,_,l++[a],q,by omega,rfl,by go_num,HTO3,HS5,HT5,HR5,HB5,HZ5⟩
        · have hd : decide (i<ks.length)=false:=df_ hlt
          obtain rfl : i=ks.length:=by omega
          obtain ⟨A0,cl,rfl,hcl,_⟩:=Kd.R_reads HROW.out
          have hres : Hid (takeR b ks=(l,(p : Int),0)):=Lib.hid (by
            unfold takeR
            rw [if_pos HKO.out,HTO.out.last])
          go_wp2;have HBo:=Lib.hid (be_ (Below.refl wr.heap.size wr))
          have HSx : Hid (∀ wx,Below wr.heap.size wr wx→wx.cell? ⟨w.heap.size,0,none⟩=some (.slice A0 l.length cl)∧wx.cell? ⟨g,1,none⟩=some (.int .i64 (p : Int))):=Lib.hid (fun wx h=>⟨(HS.out.below h).c4,(HT.out.below h).c1⟩)
          refine start_ (n:=8) (S:=fun wx=>wx.cell? ⟨w.heap.size,0,none⟩=some (.slice A0 l.length cl)∧wx.cell? ⟨g,1,none⟩=some (.int .i64 (p : Int))) (ds:=[6,7]) #[false,false,false,false,false,false,false,false] (by kernel_rfl) rfl rfl (HSx.out _ HBo.out) (fun hHeld=>?_)
          refine with_tabW Take14.tab Take14.bits (fun HT_ HW_=>?_)
          generalize wr.drew=wD at HBo hHeld ⊢
          refine take_ (i:=0) (N:=(some 42)) (v:=?_) (a':=?_) #[true,false,false,false,false,false,false,false] rfl rfl (take_ofW HT_.out HW_.out (by kernel_rfl)) (fun _ _ _ h=>take_put (by decide) h) (Or.inl ⟨by rfl,?_⟩) hHeld ?_ ?_;rotate_left;(rintro w' ⟨s0,s1⟩;go_simp;with_reducible rfl);rotate_left;(simp only [Act.put,u1_,u2_,u3_,i64_w,i32_w];rfl)
          refine pure_ (i:=1) (N:=(some 43)) (v:=?_) (a':=?_) #[true,true,false,false,false,false,false,false] rfl rfl (any_of HT_.out (by kernel_rfl)) (fun _ _ _ h=>take_put (by decide) h) (Or.inl ⟨by rfl,?_⟩) ?_ ?_;rotate_left;(intro w';go_simp;with_reducible rfl);rotate_left;(simp only [Act.put,u1_,u2_,u3_,i64_w,i32_w];rfl)
          refine pure_ (i:=2) (N:=(some 44)) (v:=?_) (a':=?_) #[true,true,true,false,false,false,false,false] rfl rfl (any_of HT_.out (by kernel_rfl)) (fun _ _ _ h=>take_put (by decide) h) (Or.inl ⟨by rfl,?_⟩) ?_ ?_;rotate_left;(intro w';go_simp;with_reducible rfl);rotate_left;(simp only [Act.put,u1_,u2_,u3_,i64_w,i32_w];rfl)
          refine pure_ (i:=3) (N:=(some 45)) (v:=?_) (a':=?_) #[true,true,true,true,false,false,false,false] rfl rfl (any_of HT_.out (by kernel_rfl)) (fun _ _ _ h=>take_put (by decide) h) (Or.inl ⟨by rfl,?_⟩) ?_ ?_;rotate_left;(intro w';go_simp;with_reducible rfl);rotate_left;(simp only [Act.put,u1_,u2_,u3_,i64_w,i32_w];rfl)
          refine take_ (i:=4) (N:=(some 46)) (v:=?_) (a':=?_) #[true,true,true,true,true,false,false,false] rfl rfl (take_ofW HT_.out HW_.out (by kernel_rfl)) (fun _ _ _ h=>take_put (by decide) h) (Or.inl ⟨by rfl,?_⟩) hHeld ?_ ?_;rotate_left;(rintro w' ⟨s0,s1⟩;go_simp;with_reducible rfl);rotate_left;(simp only [Act.put,u1_,u2_,u3_,i64_w,i32_w];rfl)
          refine one_ (i:=5) (N:=none) #[true,true,true,true,true,true,false,false] rfl rfl (one_of HT_.out (by kernel_rfl)) (by decide) (fun K hK=>?_)
          have HS1:=Lib.hid (HS.out.below HBo.out);have HB1:=Lib.hid (bp_ HB.out HBo.out);have HR1:=Lib.hid (Kd.R_below HROW.out HBo.out);have c4:=HS1.out.c4;have f4:=HS1.out.f4
          refine skip_ (w1:=wD.setCell ⟨w.heap.size,0,none⟩ (.slice A0 l.length cl)) (by rfl) (by rfl) ?_ ?_
          (go_simp; try rfl);clear c4 f4;have HS2:=Lib.hid (HS1.out.s4 (.slice A0 l.length cl));have HB2:=Lib.hid (HB1.out.setCell (p:=⟨w.heap.size,0,none⟩) (Nat.le_refl _) (.slice A0 l.length cl))
          have HT2:=Lib.hid ((HT.out.below HBo.out).other (h:=w.heap.size) (by omega) (fun ad e h0=>Nat.ne_of_lt (HFAR.out ad e h0)) 0 (.slice A0 l.length cl))
          have HR2:=Lib.hid (Kd.R_grown2 HR1.out rfl (grown_set wD w.heap.size 0 (.slice A0 l.length cl)) (fun k2 hk2 he=>by injection hk2 with hk2; have:=Kd.R_base HR1.out k2 he.symm; omega))
          generalize wD.setCell ⟨w.heap.size,0,none⟩ (.slice A0 l.length cl)=wE at HS2 HB2 HR2 HT2 ⊢
          refine hK.out _ _ (⟨HS2.out.c4,HT2.out.c1⟩) (fun hHeld=>?_)
          clear hK K
          refine last_ (i:=6) (N:=none) #[true,true,true,true,true,true,true,false] rfl rfl (one_of HT_.out (by kernel_rfl)) (by decide) (fun K hK=>?_)
          have c5:=HS2.out.c5;have f5:=HS2.out.f5
          refine skip_ (w1:=wE.setCell ⟨w.heap.size + 1,0,none⟩ (.int .i64 (p : Int))) (by rfl) (by rfl) ?_ ?_
          (go_simp; try rfl);clear c5 f5;have HS3:=Lib.hid (HS2.out.s5 (p : Int));have HB3:=Lib.hid (HB2.out.setCell (p:=⟨w.heap.size + 1,0,none⟩) (Nat.le_succ _) (.int .i64 (p : Int)))
          have HR3:=Lib.hid (Kd.R_grown2 HR2.out rfl (grown_set wE (w.heap.size + 1) 0 (.int .i64 (p : Int))) (fun k2 hk2 he=>by injection hk2 with hk2; have:=Kd.R_base HR2.out k2 he.symm; omega))
          generalize wE.setCell ⟨w.heap.size + 1,0,none⟩ (.int .i64 (p : Int))=wF at HS3 HB3 HR3 ⊢
          refine hK.out _ _ ?_;clear hK K
          refine last_ (i:=7) (N:=none) #[true,true,true,true,true,true,true,true] rfl rfl (one_of HT_.out (by kernel_rfl)) (by decide) (fun K hK=>?_)
          have c6:=HS3.out.c6;have f6:=HS3.out.f6
          refine skip_ (w1:=wF.setCell ⟨w.heap.size + 2,0,none⟩ (.int .i64 0)) (by rfl) (by rfl) ?_ ?_
          (go_simp; try rfl);clear c6 f6;have HS4:=Lib.hid (HS3.out.s6 0)
          have HB4:=Lib.hid (HB3.out.setCell (p:=⟨w.heap.size + 2,0,none⟩) (by simp only; omega) (.int .i64 0))
          have HR4:=Lib.hid (Kd.R_grown2 HR3.out rfl (grown_set wF (w.heap.size + 2) 0 (.int .i64 0)) (fun k2 hk2 he=>by injection hk2 with hk2; have:=Kd.R_base HR3.out k2 he.symm; omega))
          generalize wF.setCell ⟨w.heap.size + 2,0,none⟩ (.int .i64 0)=wG at HS4 HB4 HR4 ⊢
          refine hK.out _ _ ?_;clear hK K;refine done_ (done_of HT_.out (by kernel_rfl)) ?_;go_wp2
          exact take_returns _ rfl rfl rfl rfl HS4.out HB4.out (Kd.R_lower HR4.out (show w.heap.size≤g + 1 by omega)) HTO.out.2.1 hres.out
end Go.Proofs.YtbmcbhpkefjhbaaDoor.Pac
namespace Go.Proofs.YtbmcbhpkefjhbaaDoor.Pac
open Go.RowKit YtbmcbhpkefjhbaaDoor YtbmcbhpkefjhbaaDoor.Mem YtbmcbhpkefjhbaaDoorW.PrintWords YtbmcbhpkefjhbaaDoorW.PrintLast YtbmcbhpkefjhbaaDoorW.PrintMore
theorem bigs_bytes (u : Int) : ∀ n,Bytes (bigs u n):=by
  intro n
  induction n with
  | zero=>intro x hx; cases hx
  | succ n ih =>
    intro x hx
    rcases List.mem_cons.1 hx with rfl|h
    · omega
    · exact ih x h
theorem bytesOf_bytes (s : ByteArray) : Bytes (bytesOf s):=by
  intro x hx
  unfold bytesOf at hx
  obtain ⟨y,_,rfl⟩:=List.mem_map.1 hx;have:=y.toNat_lt;omega
theorem str_bytesOf (s : ByteArray) : strOfNums (bytesOf s)=s:=by
  obtain ⟨d⟩:=s;obtain ⟨d⟩:=d
  unfold strOfNums bytesOf
  have e : ((fun n : Int=>UInt8.ofNat n.toNat) ∘ fun b : UInt8=>((b.toNat : Nat) : Int))=id:=by
    funext b
    simp
  simp [e]
theorem foldl_bigs (u : Int) : ∀ (n : Nat) (acc : Int),(bigs u n).foldl (fun u c=>u * 256 + c) acc=acc * 256 ^ n + u % 256 ^ n:=by
  intro n
  induction n with
  | zero=>intro acc; simp [bigs,Int.emod_one]
  | succ n ih =>
    intro acc
    show (bigs u n).foldl _ (acc * 256 + u / 2 ^ (8 * n) % 256)=_
    rw [ih]
    have e : (2 : Int) ^ (8 * n)=256 ^ n:=by rw [Int.pow_mul]; rfl
    rw [e,Int.pow_succ]
    generalize hm : (256 : Int) ^ n=m
    have hm0 : 0<m:=by rw [← hm]; exact Int.pow_pos (by decide)
    have h1 : u % (m * 256)=m * (u / m % 256) + u % m:=by
      have a1:=Int.emod_add_mul_ediv u m;have a2:=Int.emod_add_mul_ediv (u / m) 256
      have a3:=Int.emod_nonneg u (show m≠0 by omega)
      have a4:=Int.emod_lt_of_pos u hm0
      have a5:=Int.emod_nonneg (u / m) (show (256 : Int)≠0 by decide)
      have a6:=Int.emod_lt_of_pos (u / m) (show (0 : Int)<256 by decide)
      have a7 : m * (u / m % 256)≤m * 255:=Int.mul_le_mul_of_nonneg_left (by omega) (by omega)
      have a8 : 0≤m * (u / m % 256):=Int.mul_nonneg (by omega) a5
      have a9 : u=m * (u / m % 256) + u % m + m * 256 * (u / m / 256):=by
        have : m * (u / m)=m * (u / m % 256) + m * 256 * (u / m / 256):=by
          rw [Int.mul_assoc,← Int.mul_add,a2]
        omega
      have b1 : u % (m * 256)=(m * (u / m % 256) + u % m + m * 256 * (u / m / 256)) % (m * 256):=congrArg (· % (m * 256)) a9
      rw [b1,Int.add_mul_emod_self_left,Int.emod_eq_of_lt (by omega) (by omega)]
    rw [h1,Int.add_mul,Int.mul_assoc,Int.mul_comm 256 m,Int.mul_comm (u / m % 256) m];omega
theorem num_bigs (u : Int) (n : Nat) (h0 : 0≤u) (h1 : u<256 ^ n) : num (bigs u n)=u:=by
  unfold num
  rw [foldl_bigs,Int.emod_eq_of_lt h0 h1];omega
def norm (a : It) : It:=⟨a.k,a.n,Flt.val a.x,a.s⟩
theorem val0 : Flt.val 0=0:=by kernel_rfl
theorem sz0 {s : ByteArray} (h : s.toList.isEmpty=true) : s=⟨#[]⟩:=by
  have h1 : s.toList=[]:=by simpa using h
  have h2:=str_bytesOf s
  have h3 : bytesOf s=[]:=by
    unfold bytesOf
    have : s.data.toList=s.toList:=by rw [Go.Lib.toList_data]
    rw [this,h1]; rfl
  rw [h3] at h2;rw [← h2]; rfl
theorem one_bytes {a : It} (h : may a=true) : Bytes (one a):=by
  have hk:=may_kind h;obtain ⟨k,n,x,s⟩:=a
  simp only at hk
  have : k=1∨k=2∨k=3∨k=4∨k=5:=by omega
  rcases this with rfl|rfl|rfl|rfl|rfl
  · exact bigs_bytes n 1
  · exact bigs_bytes n 2
  · exact bigs_bytes n 4
  · exact bigs_bytes _ 8
  · rw [may_5] at h
    simp only [Bool.and_eq_true,decide_eq_true_eq] at h
    exact Bytes.cons (Int.natCast_nonneg _) (by simp only; omega) (bytesOf_bytes s)
theorem ones_bytes {l : List It} (h : ∀ a ∈ l,may a=true) : Bytes (ones l):=by
  intro x hx;obtain ⟨a,ha,hxa⟩:=List.mem_flatMap.1 hx;exact one_bytes (h a ha) x hxa
end Go.Proofs.YtbmcbhpkefjhbaaDoor.Pac
namespace Go.Proofs.YtbmcbhpkefjhbaaDoor.Pac
open Go.RowKit YtbmcbhpkefjhbaaDoor YtbmcbhpkefjhbaaDoor.Mem YtbmcbhpkefjhbaaDoorW.PrintWords YtbmcbhpkefjhbaaDoorW.PrintLast YtbmcbhpkefjhbaaDoorW.PrintMore
def Apart (v u : Value) : Prop:=∀ k,v.ownBlock=some k→u.ownBlock≠some k
theorem Apart.symm {v u : Value} (h : Apart v u) : Apart u v:=fun k hk he=>h k he hk
theorem Apart.step {v u v1 : Value} {n : Nat} (h : Apart v u) (hat : v1.ownBlock=v.ownBlock∨∃ b,v1.ownBlock=some b∧n≤b) (hlt : ∀ k,u.ownBlock=some k→k<n) : Apart v1 u:=by
  intro k hk he
  rcases hat with e | ⟨b,e,hb⟩
  · rw [e] at hk; exact h k hk he
  · rw [e] at hk
    injection hk with hk
    have:=hlt k he;omega
theorem foldl_acc : ∀ (t : List Int) (acc : Int),t.foldl (fun u c=>u * 256 + c) acc=acc * 256 ^ t.length + num t:=by
  intro t
  induction t with
  | nil=>intro acc; simp [num]
  | cons x t ih =>
    intro acc
    show t.foldl _ (acc * 256 + x)=_
    have h2 : num (x :: t)=x * 256 ^ t.length + num t:=by
      show t.foldl _ (0 * 256 + x)=_
      rw [ih]; simp
    rw [ih,h2,List.length_cons,Int.pow_succ,Int.add_mul,Int.mul_assoc,Int.mul_comm 256 (256 ^ t.length)];omega
theorem bigs_add (z y : Int) (n : Nat) : ∀ j,j≤n→bigs (z * 256 ^ n + y) j=bigs y j:=by
  intro j
  induction j with
  | zero=>intro _; rfl
  | succ j ih =>
    intro hj
    show ((z * 256 ^ n + y) / 2 ^ (8 * j) % 256) :: bigs _ j=(y / 2 ^ (8 * j) % 256) :: bigs y j
    rw [ih (by omega)]
    congr 1
    have e : (2 : Int) ^ (8 * j)=256 ^ j:=by rw [Int.pow_mul]; rfl
    obtain ⟨q,rfl⟩ : ∃ q,n=j + 1 + q:=⟨n - (j + 1),by omega⟩
    rw [e,show z * 256 ^ (j + 1 + q)=256 ^ j * (256 * (z * 256 ^ q)) by
      rw [Int.pow_add,Int.pow_succ]
      simp only [Int.mul_assoc,Int.mul_left_comm,Int.mul_comm]]
    have hp : (256 : Int) ^ j≠0:=Int.ne_of_gt (Int.pow_pos (by decide))
    rw [Int.add_comm,Int.add_mul_ediv_left _ _ hp,Int.add_mul_emod_self_left]
theorem bigs_num : ∀ (l : List Int),Bytes l→bigs (num l) l.length=l:=by
  intro l
  induction l with
  | nil=>intro _; rfl
  | cons x t ih =>
    intro hb;have hx:=hb x List.mem_cons_self
    have ht : Bytes t:=fun y hy=>hb y (List.mem_cons_of_mem _ hy)
    have hn:=num_bd ht
    have e1 : num (x :: t)=x * 256 ^ t.length + num t:=by
      show t.foldl _ (0 * 256 + x)=_
      rw [foldl_acc]; simp
    rw [e1]
    show ((x * 256 ^ t.length + num t) / 2 ^ (8 * t.length) % 256) :: bigs _ t.length=_
    rw [bigs_add _ _ _ _ (Nat.le_refl _),ih ht]
    congr 1
    have e : (2 : Int) ^ (8 * t.length)=256 ^ t.length:=by rw [Int.pow_mul]; rfl
    have hp : (256 : Int) ^ t.length≠0:=Int.ne_of_gt (Int.pow_pos (by decide))
    rw [e,Int.add_comm,Int.add_mul_ediv_right _ _ hp,Int.ediv_eq_zero_of_lt hn.1 hn.2];omega
theorem bytesOf_str {l : List Int} (h : Bytes l) : bytesOf (strOfNums l)=l:=by
  unfold bytesOf strOfNums
  simp only [List.map_map]
  conv=>rhs; rw [← List.map_id l]
  refine List.map_congr_left (fun x hx=>?_)
  have:=h x hx
  simp only [Function.comp,id,UInt8.toNat_ofNat']
  omega
theorem test_eq {a : It} (hm : may a=true) {t : List Int} (ht : Bytes t) : ((strOfNums (one a)).toList == (strOfNums t).toList)=decide (one a=t):=str_eq (one_bytes hm) ht
theorem rt4 {b : List Int} {p : Nat} (hb : Bytes b) (h : p + 8≤b.length) : decide (one ⟨4,0,(num ((b.drop p).take 8)).toNat,⟨#[]⟩⟩=(b.drop p).take 8)=decide (Flt.val (num ((b.drop p).take 8)).toNat=(num ((b.drop p).take 8)).toNat):=by
  have hbs : Bytes ((b.drop p).take 8):=(hb.drop p).take 8
  have hl : ((b.drop p).take 8).length=8:=by rw [List.length_take,List.length_drop]; omega
  have hn:=num_bd hbs
  rw [hl,show (256 : Int) ^ 8=18446744073709551616 by decide] at hn
  have hbn:=bigs_num _ hbs;rw [hl] at hbn
  generalize (b.drop p).take 8=t at *
  have ho : one ⟨4,0,(num t).toNat,⟨#[]⟩⟩=bigs (Flt.val (num t).toNat : Int) 8:=rfl;rw [ho];rw [decide_eq_decide]
  constructor
  · intro h
    have h2:=congrArg num h
    have hv:=val_bd (x:=(num t).toNat) (by omega)
    rw [num_bigs _ 8 (Int.natCast_nonneg _) (by rw [show (256 : Int) ^ 8=18446744073709551616 by decide]; omega)] at h2
    omega
  · intro h
    rw [h,Int.toNat_of_nonneg hn.1];exact hbn
theorem rt5 {b : List Int} {p m : Nat} (hb : Bytes b) (h : p + 1 + m≤b.length) (hm : num ((b.drop p).take 1)=(m : Int)) : one ⟨5,0,0,strOfNums ((b.drop (p + 1)).take m)⟩=(b.drop p).take (1 + m):=by
  have ho : one ⟨5,0,0,strOfNums ((b.drop (p + 1)).take m)⟩=((strOfNums ((b.drop (p + 1)).take m)).size : Int) :: bytesOf (strOfNums ((b.drop (p + 1)).take m)):=rfl
  have hl : ((b.drop (p + 1)).take m).length=m:=by rw [List.length_take,List.length_drop]; omega
  rw [ho,bytesOf_str ((hb.drop (p + 1)).take m),size_strOf,hl]
  obtain ⟨x,hx⟩ : ∃ x,b[p]?=some x:=⟨_,List.getElem?_eq_getElem (by omega)⟩
  have hd : b.drop p=x :: b.drop (p + 1):=drop_cons hx;rw [hd] at hm ⊢
  have : num [x]=x:=by simp [num]
  rw [show (x :: b.drop (p + 1)).take 1=[x] from rfl,this] at hm
  rw [Nat.add_comm 1 m,List.take_succ_cons,hm]
theorem rt3 {b : List Int} {p m : Nat} {k : Int} (hb : Bytes b) (h : p + m≤b.length) (hk : k=1∨k=2∨k=3) (hw : wid k=(m : Int)) : one ⟨k,num ((b.drop p).take m),0,⟨#[]⟩⟩=(b.drop p).take m:=by
  have hl : ((b.drop p).take m).length=m:=by rw [List.length_take,List.length_drop]; omega
  have hbn:=bigs_num _ ((hb.drop p).take m);rw [hl] at hbn
  unfold one
  rw [if_pos hk]
  simp only
  rw [hw,Int.toNat_natCast];exact hbn
end Go.Proofs.YtbmcbhpkefjhbaaDoor.Pac
namespace Go.Proofs.YtbmcbhpkefjhbaaDoor.Pac
open Go.RowKit YtbmcbhpkefjhbaaDoor YtbmcbhpkefjhbaaDoor.Mem YtbmcbhpkefjhbaaDoorW.PrintWords YtbmcbhpkefjhbaaDoorW.PrintLast YtbmcbhpkefjhbaaDoorW.PrintMore
def RT30x1a.T : Bool × List (List Nat × List Nat):=(true,[([],[]),([0],[0]),([1],[1]),([2,1],[2]),([3],[3]),([4,3,3],[3,4]),([5,3],[3,5]),([3],[3]),([3],[3]),([3],[3]),([3],[3]),([9,10,3],[3,9,10]),([7,8,11,3],[3,7,8,11]),([12,3],[3,12]),([6,13,3],[3,6,13]),([3,14],[3,14])])
def RT30x1a.B : List Nat:=[0,1,3,7,15,31,63,15,15,15,15,1551,3983,8079,16383,32767]
theorem RT30x1a.tab : rtab .any (opsOf Tryd.f26 30)=RT30x1a.T:=by kernel_rfl
theorem RT30x1a.bits : waitsOk RT30x1a.T.2 RT30x1a.B=true:=by kernel_rfl
def RT30x2b.T : Bool × List (List Nat × List Nat):=(true,[([],[]),([0],[0]),([1],[1]),([2,1],[2]),([3],[3]),([4,3,3],[3,4]),([5,3],[3,5]),([3],[3]),([3],[3]),([3],[3]),([3],[3]),([9,10,3],[3,9,10]),([7,8,11,3],[3,7,8,11]),([12,3],[3,12]),([6,13,3],[3,6,13]),([3,14],[3,14])])
def RT30x2b.B : List Nat:=[0,1,3,7,15,31,63,15,15,15,15,1551,3983,8079,16383,32767]
theorem RT30x2b.tab : rtab .any (opsOf Tryd.f26 30)=RT30x2b.T:=by kernel_rfl
theorem RT30x2b.bits : waitsOk RT30x2b.T.2 RT30x2b.B=true:=by kernel_rfl
def RT30x1e.T : Bool × List (List Nat × List Nat):=(true,[([],[]),([0],[0]),([1],[1]),([2,1],[2]),([3],[3]),([4,3,3],[3,4]),([5,3],[3,5]),([3],[3]),([3],[3]),([3],[3]),([3],[3]),([9,10,3],[3,9,10]),([7,8,11,3],[3,7,8,11]),([12,3],[3,12]),([6,13,3],[3,6,13]),([3,14],[3,14])])
def RT30x1e.B : List Nat:=[0,1,3,7,15,31,63,15,15,15,15,1551,3983,8079,16383,32767]
theorem RT30x1e.tab : rtab .any (opsOf Tryd.f26 30)=RT30x1e.T:=by kernel_rfl
theorem RT30x1e.bits : waitsOk RT30x1e.T.2 RT30x1e.B=true:=by kernel_rfl
def RT30x1c.T : Bool × List (List Nat × List Nat):=(true,[([],[]),([0],[0]),([1],[1]),([2,1],[2]),([3],[3]),([4,3,3],[3,4]),([5,3],[3,5]),([3],[3]),([3],[3]),([3],[3]),([3],[3]),([9,10,3],[3,9,10]),([7,8,11,3],[3,7,8,11]),([12,3],[3,12]),([6,13,3],[3,6,13]),([3,14],[3,14])])
def RT30x1c.B : List Nat:=[0,1,3,7,15,31,63,15,15,15,15,1551,3983,8079,16383,32767]
theorem RT30x1c.tab : rtab .any (opsOf Tryd.f26 30)=RT30x1c.T:=by kernel_rfl
theorem RT30x1c.bits : waitsOk RT30x1c.T.2 RT30x1c.B=true:=by kernel_rfl
def RT30x3d.T : Bool × List (List Nat × List Nat):=(true,[([],[]),([0],[0]),([1],[1]),([2,1],[2]),([3],[3]),([4,3,3],[3,4]),([5,3],[3,5]),([3],[3]),([3],[3]),([3],[3]),([3],[3]),([9,10,3],[3,9,10]),([7,8,11,3],[3,7,8,11]),([12,3],[3,12]),([6,13,3],[3,6,13]),([3,14],[3,14])])
def RT30x3d.B : List Nat:=[0,1,3,7,15,31,63,15,15,15,15,1551,3983,8079,16383,32767]
theorem RT30x3d.tab : rtab .any (opsOf Tryd.f26 30)=RT30x3d.T:=by kernel_rfl
theorem RT30x3d.bits : waitsOk RT30x3d.T.2 RT30x3d.B=true:=by kernel_rfl
set_option maxRecDepth 100000 in
set_option maxHeartbeats 4000000 in
theorem rTake_any (B : Option Addr) (c : Nat) (b : List Int) (K : Option Addr) (d : Nat) (ks : List Int) (w : World) (hr : RdB w B b) (hby : Bytes b) (hb : b.length≤1000000) (hc : b.length≤c) (hk : Kd.C (Kd.int .i64) w K ks.length ks) (hkl : ks.length≤1000000) :
    Calls Tryd.prog 26 #[.slice B b.length c,.slice K ks.length d] w fun e w'=>TakePost b ks w e w':=by
  have HR:=Lib.hid hr;have HK:=Lib.hid hk;have HBy:=Lib.hid hby;clear hr hk hby;have HB:=Lib.hid (Below.refl w.heap.size w)
  have hsf : ∀ (a : Addr) (n : Nat) (w : World),(store a (.float .f64 n)).run Tryd.prog w=stored Tryd.prog w a (.float .f64 n) .plain:=fun a n w=>run_store _ w a _ _ rfl
  go_enter Tryd.func26,Tryd.ntmps26;go_wp2
  go_loopg [7] ks.length (fun kk v7 wq=>∃ i : Nat,i≤ks.length∧kk=ks.length - i∧v7=.int .i64 (i : Int)∧Hid (∀ (j : Nat) (x : Int),j<i→ks[j]?=some x→1≤x∧x≤5)∧w=wq)
  case atStart=>exact ⟨0,Nat.zero_le _,rfl,rfl,Lib.hid (fun j x h=>absurd h (Nat.not_lt_zero _)),rfl⟩
  case round =>
    obtain ⟨i,hi,rfl,rfl,HO,rfl⟩:=hrel;have i0 : (0 : Int)≤(i : Int):=Int.natCast_nonneg _
    by_cases hlt : i<ks.length
    · have hd : decide (i<ks.length)=true:=dt_ hlt
      have i1 : (i : Int)<(ks.length : Int):=by omega
      obtain ⟨k,hk⟩ : ∃ k,ks[i]?=some k:=⟨_,List.getElem?_eq_getElem hlt⟩
      obtain ⟨ad,rfl,y⟩:=Dsg.RdI_at' HK.out hk;have HKI:=Lib.hid hk
      by_cases hok : 1≤k∧k≤5
      · have e1 : decide (k<1)=false:=df_ (by omega)
        have e2 : decide ((5 : Int)<k)=false:=df_ (by omega)
        clear hk;go_wp2;go_roundg (ks.length - (i + 1))
        case measure=>omega
        case rel =>
          refine ⟨i + 1,by omega,rfl,by go_num,Lib.hid (fun j x hj hx=>?_),rfl⟩
          by_cases e : j=i
          · rw [e,HKI.out] at hx
            injection hx with hx
            rw [← hx];exact hok
          · exact HO.out j x (by omega) hx
      · have hbad : Hid (takeR b ks=([],0,1)):=Lib.hid (by
          unfold takeR kindsOk
          rw [if_neg];rw [List.all_eq_true];intro h;have:=h k (List.mem_of_getElem? hk)
          simp at this
          omega)
        have hcs : decide (k<1)=true∨(decide (k<1)=false∧decide ((5 : Int)<k)=true):=by
          by_cases h : k<1
          · exact .inl (dt_ h)
          · exact .inr ⟨df_ h,dt_ (by omega)⟩
        clear hk hok
        rcases hcs with e1 | ⟨e1,e2⟩
        all_goals go_wp2
        all_goals go_ret3
        all_goals refine ⟨.slice none 0 0,?_,?_,HB.out⟩
        all_goals rw [hbad.out]
        all_goals first|rfl|exact GotO.nil _ _
    · have hd : decide (i<ks.length)=false:=df_ hlt
      obtain rfl : i=ks.length:=by omega
      have HKO : Hid (kindsOk ks=true):=Lib.hid (by
        unfold kindsOk
        rw [List.all_eq_true];intro x hx;obtain ⟨j,hj⟩:=List.mem_iff_getElem?.1 hx;have:=HO.out j x (List.getElem?_eq_some_iff.1 hj).1 hj
        simp
        omega)
      clear hlt hd i0
      go_wp2_with (first|((with_reducible refine gate_dst (N:=34) rfl ?_); refine Kd.R_lit (Kd.int .i64) _ 3 ?hg (N:=34) ?hd (xs:=([0,1,2,4,8,1] : List Int)) (inner:=[.int .i64 (0),.int .i64 (1),.int .i64 (2),.int .i64 (4),.int .i64 (8),.int .i64 (1)]) (ok:=fun _=>True) (okp:=fun _=>True) ?hr ?hp (fun _ hk=>hk) trivial (Below.refl _ _) (Nat.le_refl _) (by simp) ?_; (case hd=>rfl); (case hg=>rfl); (case hr=>first|(go_simp; done)|(go_simp; rfl)); (case hp=>exact Reps.one (show Kd.M (Kd.int .i64) _ _ _ (0) [.int .i64 (0)] from rfl) (Reps.one (show Kd.M (Kd.int .i64) _ _ _ (1) [.int .i64 (1)] from rfl) (Reps.one (show Kd.M (Kd.int .i64) _ _ _ (2) [.int .i64 (2)] from rfl) (Reps.one (show Kd.M (Kd.int .i64) _ _ _ (4) [.int .i64 (4)] from rfl) (Reps.one (show Kd.M (Kd.int .i64) _ _ _ (8) [.int .i64 (8)] from rfl) (Reps.one (show Kd.M (Kd.int .i64) _ _ _ (1) [.int .i64 (1)] from rfl) (Reps.none _ _))))))); intro v34 w34 ho hb hg_ hnew_; have HG34:=Lib.hid hg_; have HNEW34:=Lib.hid hnew_; clear hg_ hnew_; have HO34:=Lib.hid (Kd.R_lower ho (bz_ (hb0_ HB.out))); have HB:=Lib.hid (bp_ (hb0_ HB.out) hb); clear ho hb)|((with_reducible refine gate_dst (N:=35) rfl ?_); refine Kd.R_lit (Kt) _ 51 ?hg (N:=35) ?hd (xs:=[]) (inner:=[]) (ok:=fun _=>True) (okp:=fun _=>True) ?hr ?hp (fun _ hk=>hk) trivial (Below.refl _ _) (Nat.le_refl _) (by simp) ?_; (case hd=>rfl); (case hg=>rfl); (case hr=>first|(go_simp; done)|(go_simp; rfl)); (case hp=>exact Reps.none _ _); intro v35 w35 ho hb hg_ hnew_; have HG35:=Lib.hid hg_; have HNEW35:=Lib.hid hnew_; clear hg_ hnew_; have HO35:=Lib.hid (Kd.R_lower ho (bz_ (hb0_ HB.out))); have HB:=Lib.hid (bp_ (hb0_ HB.out) hb); clear ho hb))
      have HSZr:=Lib.hid (Kd.R_grown2 HO34.out rfl HG35.out (fun k hk=>by cases hk))
      obtain ⟨S1,sc,hv,hsc,hsr⟩:=Kd.R_reads HSZr.out;have hv' : v34=.slice S1 6 sc:=hv;subst hv'
      have HAP0 : Hid (Apart (.slice S1 6 sc) v35):=Lib.hid (fun k hk he=>by
        have h1:=Kd.R_lt HO34.out k hk;obtain ⟨b,h2,h3⟩:=HNEW35.out;rw [he] at h2
        injection h2 with h2
        omega)
      clear HO34 HG34 HG35 HNEW34 HNEW35 hsc hsr
      go_loopg [9,10,11,12,13,14,15] ks.length (fun kk v9 v10 v11 v12 v13 v14 v15 wq=>∃ (i : Nat) (vl : Value) (l : List It) (p : Nat),i≤ks.length∧kk=ks.length - i∧v11=.int .i64 (i : Int)∧v10=.int .i64 (p : Int)∧vl=v9∧Hid (Took b ks i l p)∧Hid (Kd.R Kt 51 wq w.heap.size (fun _=>True) v9 l)∧Hid (Kd.R (Kd.int .i64) 3 wq w.heap.size (fun _=>True) (.slice S1 6 sc) [0,1,2,4,8,1])∧Hid (Apart (.slice S1 6 sc) v9)∧Hid (Below w.heap.size w wq))
      case atStart=>exact ⟨0,_,[],0,Nat.zero_le _,rfl,rfl,rfl,rfl,Lib.hid (Took.first b ks),HO35,HSZr,HAP0,HB⟩
      case round =>
        clear HO35 HSZr HAP0 HB;obtain ⟨i,vl,l,p,hi,rfl,rfl,rfl,rfl,HTO,HW,HSZr,HAP,HB⟩:=hrel;have i0 : (0 : Int)≤(i : Int):=Int.natCast_nonneg _;have p0 : (0 : Int)≤(p : Int):=Int.natCast_nonneg _;have hpb:=HTO.out.2.2.1
        have b1 : (b.length : Int)≤1000000:=by omega
        have p1 : (p : Int)≤(b.length : Int):=by omega
        have HLEN : Hid (l.length=i):=Lib.hid HTO.out.1
        by_cases hlt : i<ks.length
        · have hd : decide (i<ks.length)=true:=dt_ hlt
          have i1 : (i : Int)<(ks.length : Int):=by omega
          obtain ⟨k,hk⟩ : ∃ k,ks[i]?=some k:=⟨_,List.getElem?_eq_getElem hlt⟩
          obtain ⟨ad,rfl,y⟩:=Dsg.RdI_at' (Kd.C_below HK.out HB.out) hk;have hok:=HO.out i k hlt hk;have HKI:=Lib.hid hk;clear hk
          have HPN : Hid (item1 b p k=none→takeR b ks=([],0,4)):=Lib.hid (fun h=>by
            unfold takeR
            rw [if_pos HKO.out,HTO.out.stop HKI.out h])
          have HRw:=Lib.hid (Kd.C_below HR.out HB.out)
          have hcs : k=4∨k=5∨(∃ kn : Nat,k=(kn : Int)∧(kn=1∨kn=2∨kn=3)):=by
            by_cases h4 : k=4
            · exact .inl h4
            by_cases h5 : k=5
            · exact .inr (.inl h5)
            exact .inr (.inr ⟨k.toNat,by omega,by omega⟩)
          have HSr:=Lib.hid (Kd.R_reads' HSZr.out).2.2
          rcases hcs with rfl|rfl | ⟨kn,rfl,hk3⟩
          · -- a number
            obtain ⟨sd,rfl,z⟩:=Dsg.RdI_at' HSr.out (j:=4) (e:=(8 : Int)) (by rfl)
            have z2 : wr.cell? ⟨sd.block,sd.off + 4,none⟩=some (.int .i64 8):=z;clear z
            by_cases hle : p + 8≤b.length
            · have hd2 : decide ((b.length : Int) - (p : Int)<(8 : Int))=false:=df_ (by omega)
              go_wp2
              obtain ⟨ws,hws⟩ : ∃ ws,ws=wr:=⟨_,rfl⟩
              go_loopg [13,14] 8 (fun kk v13 v14 wq=>∃ j : Nat,j≤8∧kk=8 - j∧v14=.int .i64 (j : Int)∧v13=.int .u64 (num ((b.drop p).take j))∧wq=ws)
              case atStart=>exact ⟨0,Nat.zero_le _,rfl,rfl,rfl,hws.symm⟩
              case round =>
                subst hws;obtain ⟨j,hj,rfl,rfl,rfl,rfl⟩:=hrel;have j0 : (0 : Int)≤(j : Int):=Int.natCast_nonneg _
                by_cases hjm : j<8
                · have hd3 : decide ((j : Int)<(8 : Int))=true:=dt_ (by omega)
                  have hd3' : decide (j<8)=true:=dt_ hjm
                  have hpj : p + j<b.length:=by omega
                  obtain ⟨bd,rfl,hx⟩:=Kd.at_int HRw.out ((p + j : Nat) : Int) (by omega) (by omega)
                  rw [Int.toNat_natCast] at hx
                  have hrd : rd b ((p + j : Nat) : Int)=rd (b.drop p) (j : Int):=by
                    unfold rd
                    rw [Int.toNat_natCast,Int.toNat_natCast]
                    simp [List.getD_eq_getElem?_getD,List.getElem?_drop]
                  rw [hrd] at hx
                  have HS:=Lib.hid (take_snoc (b.drop p) j (by rw [List.length_drop]; omega))
                  have hX:=(HBy.out.drop p).at_ j (by rw [List.length_drop]; omega)
                  have hU:=num_bd ((HBy.out.drop p).take j)
                  rw [List.length_take,List.length_drop,Nat.min_eq_left (by omega)] at hU
                  have hp56:=pow56 j (by omega)
                  have pj1 : (p : Int) + (j : Int)<(b.length : Int):=by omega
                  generalize rd (b.drop p) (j : Int)=x at *
                  generalize hu : num ((b.drop p).take j)=u at *
                  have HUE:=Lib.hid hu;have u0 : 0≤u:=hU.1
                  have u1 : u<72057594037927936:=by omega
                  have x0 : 0≤x:=hX.1;have x1 : x≤255:=hX.2;clear hu hU hp56 hX hrd;go_wp2;go_roundg (8 - (j + 1))
                  case measure=>omega
                  case rel=>exact ⟨j + 1,by omega,rfl,by go_num,by rw [HS.out,num_snoc,HUE.out],rfl⟩
                · have hd3 : decide ((j : Int)<(8 : Int))=false:=df_ (by omega)
                  have hd3' : decide (j<8)=false:=df_ hjm
                  obtain rfl : 8=j:=by omega
                  have y2 : (wr.alloc (Obj.cells #[Value.int IntKind.i64 4,Value.int IntKind.i64 0,Value.float FloatKind.f64 0,Value.string ⟨#[]⟩] 51)).cell? (ad.add i)=some (.int .i64 4):=(World.cell?_alloc_lt _ _ _ (wb_ wr _ y)).trans y;clear HSr HRw;have hub:=num_bd ((HBy.out.drop p).take 8)
                  rw [show ((b.drop p).take 8).length=8 by rw [List.length_take,List.length_drop]; omega,show (256 : Int) ^ 8=18446744073709551616 by decide] at hub
                  have HT8:=Lib.hid (rt4 HBy.out hle)
                  have HEQ:=Lib.hid (test_eq (a:=⟨4,0,(num ((b.drop p).take 8)).toNat,⟨#[]⟩⟩) (by rw [may_4,nil_toList]; rfl) ((HBy.out.drop p).take 8))
                  have HIT0 : Hid (item1 b p 4=if p + 8≤b.length∧Flt.val (num ((b.drop p).take 8)).toNat=(num ((b.drop p).take 8)).toNat then some (⟨4,0,(num ((b.drop p).take 8)).toNat,⟨#[]⟩⟩,p + 8) else none):=Lib.hid rfl
                  generalize num ((b.drop p).take 8)=u at *
                  have HMAY : Hid (may ⟨4,0,u.toNat,⟨#[]⟩⟩=true):=Lib.hid (by rw [may_4,nil_toList]; rfl)
                  go_wp2_with fail;have HI3:=Lib.hid (OI.alloc wr ⟨4,0,u.toNat,⟨#[]⟩⟩);have HW3:=Lib.hid (ra_ HW.out (It.o ⟨4,0,u.toNat,⟨#[]⟩⟩));have HS3:=Lib.hid (ra_ HSZr.out (It.o ⟨4,0,u.toNat,⟨#[]⟩⟩));have HB3:=Lib.hid (ba_ HB.out (It.o ⟨4,0,u.toNat,⟨#[]⟩⟩))
                  generalize wr.alloc (It.o ⟨4,0,u.toNat,⟨#[]⟩⟩)=wX at HI3 HW3 HS3 HB3 ⊢
                  generalize wr.heap.size=g at *
                  clear y2 y HB HW HSZr
                  by_cases hval : Flt.val u.toNat=u.toNat
                  · have HTE : Hid (((strOfNums (one ⟨4,0,u.toNat,⟨#[]⟩⟩)).toList == (strOfNums ((b.drop p).take 8)).toList)=true):=Lib.hid (by rw [HEQ.out,HT8.out]; exact dt_ hval)
                    have HIT : Hid (item1 b p 4=some (⟨4,0,u.toNat,⟨#[]⟩⟩,p + 8)):=Lib.hid (by rw [HIT0.out,if_pos ⟨hle,hval⟩])
                    clear HEQ HT8 HIT0 hval
                    have MY:=Lib.hid (fun wx=>May_any ⟨4,0,u.toNat,⟨#[]⟩⟩ wx)
                    rw [HMAY.out] at MY
                    obtain ⟨Aq,hsl,hrdq⟩:=cut_b B c b p (8) (by omega) hc
                    rw [show (((8 : Nat)) : Int)=8 by omega] at hsl
                    have hwp : wrap64 ((p : Int) + (8))=(p : Int) + (8):=by first|(simp only [wrap64]; omega)|(unfold wrap64; split <;> omega)|go_num
                    have HCV : Hid (∀ wx,RdB wx B b→(convert 22 9 (.slice Aq (8) (c - p))).run Tryd.prog wx=.ok (.string (strOfNums ((b.drop p).take (8)))) wx):=Lib.hid (fun wx h=>by
                      have h2:=conv_str (c - p) (hrdq wx h)
                      rwa [show ((b.drop p).take (8)).length=8 by rw [List.length_take,List.length_drop]; omega] at h2)
                    clear hrdq;have HRX:=Lib.hid (Kd.C_below HR.out HB3.out)
                    have ON:=Lib.hid (fun wx=>One_any ⟨4,0,u.toNat,⟨#[]⟩⟩ wx HMAY.out (by simp only; omega))
                    have hte:=HTE.out
                    have hte2 : ((strOfNums (one ⟨4,0,u.toNat,⟨#[]⟩⟩)).toList != (strOfNums ((b.drop p).take (8))).toList)=false:=by rw [bne,hte]; rfl
                    generalize strOfNums ((b.drop p).take (8))=sy at *
                    have HBo:=Lib.hid (be_ (Below.refl wX.heap.size wX))
                    have HSx : Hid (∀ wx,Below wX.heap.size wX wx→HasIt wx g ⟨4,0,u.toNat,⟨#[]⟩⟩∧(convert 22 9 (.slice Aq (8) (c - p))).run Tryd.prog wx=.ok (.string sy) wx):=Lib.hid (fun wx h=>⟨HI3.out.has.below h,HCV.out wx (Kd.C_below HRX.out h)⟩)
                    refine start_ (n:=16) (S:=fun wx=>HasIt wx g ⟨4,0,u.toNat,⟨#[]⟩⟩∧(convert 22 9 (.slice Aq (8) (c - p))).run Tryd.prog wx=.ok (.string sy) wx) (ds:=[]) #[false,false,false,false,false,false,false,false,false,false,false,false,false,false,false,false] (by kernel_rfl) rfl rfl (HSx.out _ HBo.out) (fun hHeld=>?_)
                    refine with_tabW RT30x1a.tab RT30x1a.bits (fun HT_ HW_=>?_)
                    generalize wX.drew=wD at HBo hHeld ⊢
                    refine ta_ (i:=0) (N:=(some 111)) (v:=?_) (a':=?_) #[true,false,false,false,false,false,false,false,false,false,false,false,false,false,false,false] rfl rfl HT_.out HW_.out (by kernel_rfl) (fun _ _ _ h=>h) (by rfl) ?_ hHeld ?_ ?_;rotate_left;(rintro w' ⟨⟨s0,s1,s2,s3⟩,s4⟩;go_simp;with_reducible rfl);rotate_left;(simp only [Act.put,u1_,u2_,u3_,i64_w,i32_w];rfl)
                    refine one_ (i:=1) (N:=(some 112)) #[true,true,false,false,false,false,false,false,false,false,false,false,false,false,false,false] rfl rfl (one_of HT_.out (by kernel_rfl)) (by decide) (fun K hK=>?_)
                    refine goes_ Tryd.func46 (by kernel_rfl) rfl #[(⟨4,0,u.toNat,⟨#[]⟩⟩ : It).v] (by rfl) rfl rfl (by (try simp only [List.map_toArray,List.map_cons,List.map_nil]); first|done|rfl) ?_
                    refine (MY.out _).mono ?_;rintro e w' ⟨rfl,hb'⟩;refine ⟨_,rfl,?_⟩;have HBo:=Lib.hid (bp_ HBo.out hb');clear hb'
                    refine hK.out _ _ (HSx.out _ HBo.out) (fun hHeld=>?_)
                    clear hK K
                    refine norm_ (a':=?_) ?_ ?_;rotate_left;(show Act.put _ (some 112) _=_;simp only [Act.put,u1_,u2_,u3_,i64_w,i32_w];rfl)
                    refine pu_ (i:=2) (N:=(some 113)) (v:=?_) (a':=?_) #[true,true,true,false,false,false,false,false,false,false,false,false,false,false,false,false] rfl rfl HT_.out (by kernel_rfl) (fun _ _ _ h=>h) (by rfl) ?_ ?_ ?_;rotate_left;(intro w';go_simp;with_reducible rfl);rotate_left;(simp only [Act.put,u1_,u2_,u3_,i64_w,i32_w];rfl)
                    refine pu_ (i:=3) (N:=(some 114)) (v:=?_) (a':=?_) #[true,true,true,true,false,false,false,false,false,false,false,false,false,false,false,false] rfl rfl HT_.out (by kernel_rfl) (fun _ _ _ h=>h) (by rfl) ?_ ?_ ?_;rotate_left;(intro w';go_simp;with_reducible rfl);rotate_left;(simp only [Act.put,u1_,u2_,u3_,i64_w,i32_w];rfl)
                    refine ta_ (i:=4) (N:=(some 115)) (v:=?_) (a':=?_) #[true,true,true,true,true,false,false,false,false,false,false,false,false,false,false,false] rfl rfl HT_.out HW_.out (by kernel_rfl) (fun _ _ _ h=>h) (by rfl) ?_ hHeld ?_ ?_;rotate_left;(rintro w' ⟨⟨s0,s1,s2,s3⟩,s4⟩;go_simp;with_reducible rfl);rotate_left;(simp only [Act.put,u1_,u2_,u3_,i64_w,i32_w];rfl)
                    refine pu_ (i:=7) (N:=(some 118)) (v:=?_) (a':=?_) #[true,true,true,true,true,false,false,true,false,false,false,false,false,false,false,false] rfl rfl HT_.out (by kernel_rfl) (fun _ _ _ h=>h) (by rfl) ?_ ?_ ?_;rotate_left;(intro w';go_simp;with_reducible rfl);rotate_left;(simp only [Act.put,u1_,u2_,u3_,i64_w,i32_w];rfl)
                    refine pu_ (i:=8) (N:=(some 119)) (v:=?_) (a':=?_) #[true,true,true,true,true,false,false,true,true,false,false,false,false,false,false,false] rfl rfl HT_.out (by kernel_rfl) (fun _ _ _ h=>h) (by rfl) ?_ ?_ ?_;rotate_left;(intro w';go_simp;with_reducible rfl);rotate_left;(simp only [Act.put,u1_,u2_,u3_,i64_w,i32_w];rfl)
                    refine pu_ (i:=9) (N:=(some 120)) (v:=?_) (a':=?_) #[true,true,true,true,true,false,false,true,true,true,false,false,false,false,false,false] rfl rfl HT_.out (by kernel_rfl) (fun _ _ _ h=>h) (by rfl) ?_ ?_ ?_;rotate_left;(intro w';go_simp;with_reducible rfl);rotate_left;(simp only [Act.put,u1_,u2_,u3_,i64_w,i32_w];rfl)
                    refine pu_ (i:=10) (N:=(some 121)) (v:=?_) (a':=?_) #[true,true,true,true,true,false,false,true,true,true,true,false,false,false,false,false] rfl rfl HT_.out (by kernel_rfl) (fun _ _ _ h=>h) (by rfl) ?_ ?_ ?_;rotate_left;(intro w';go_simp;with_reducible rfl);rotate_left;(simp only [Act.put,u1_,u2_,u3_,i64_w,i32_w];rfl)
                    refine pu_ (i:=11) (N:=(some 122)) (v:=?_) (a':=?_) #[true,true,true,true,true,false,false,true,true,true,true,true,false,false,false,false] rfl rfl HT_.out (by kernel_rfl) (fun _ _ _ h=>h) (by rfl) ?_ ?_ ?_;rotate_left;(intro w';go_simp;with_reducible rfl);rotate_left;(simp only [Act.put,u1_,u2_,u3_,i64_w,i32_w];rfl)
                    refine pu_ (i:=12) (N:=(some 123)) (v:=?_) (a':=?_) #[true,true,true,true,true,false,false,true,true,true,true,true,true,false,false,false] rfl rfl HT_.out (by kernel_rfl) (fun _ _ _ h=>h) (by rfl) ?_ ?_ ?_;rotate_left;(intro w';go_simp;with_reducible rfl);rotate_left;(simp only [Act.put,u1_,u2_,u3_,i64_w,i32_w];rfl)
                    refine ta_ (i:=13) (N:=(some 124)) (v:=?_) (a':=?_) #[true,true,true,true,true,false,false,true,true,true,true,true,true,true,false,false] rfl rfl HT_.out HW_.out (by kernel_rfl) (fun _ _ _ h=>h) (by rfl) ?_ hHeld ?_ ?_;rotate_left;(rintro w' ⟨⟨s0,s1,s2,s3⟩,s4⟩;go_simp;with_reducible rfl);rotate_left;(simp only [Act.put,u1_,u2_,u3_,i64_w,i32_w];rfl)
                    refine one_ (i:=5) (N:=(some 116)) #[true,true,true,true,true,true,false,true,true,true,true,true,true,true,false,false] rfl rfl (one_of HT_.out (by kernel_rfl)) (by decide) (fun K hK=>?_)
                    refine goes_ Tryd.func47 (by kernel_rfl) rfl #[(⟨4,0,u.toNat,⟨#[]⟩⟩ : It).v] (by rfl) rfl rfl (by (try simp only [List.map_toArray,List.map_cons,List.map_nil]); first|done|rfl) ?_
                    refine (ON.out _).mono ?_;rintro e w6 ⟨v6,rfl,hR6,hb'⟩;refine ⟨_,rfl,?_⟩;have HBo:=Lib.hid (bp_ HBo.out hb');obtain ⟨A6,c6,rfl,_,hr6⟩:=Kd.R_reads hR6;have hcv6:=conv_str c6 hr6;clear hb' hR6 hr6
                    refine hK.out _ _ (HSx.out _ HBo.out) (fun hHeld=>?_)
                    clear hK K
                    refine norm_ (a':=?_) ?_ ?_;rotate_left;(show Act.put _ (some 116) _=_;simp only [Act.put,u1_,u2_,u3_,i64_w,i32_w];rfl)
                    refine one_ (i:=6) (N:=(some 117)) #[true,true,true,true,true,true,true,true,true,true,true,true,true,true,false,false] rfl rfl (one_of HT_.out (by kernel_rfl)) (by decide) (fun K hK=>?_)
                    refine value_ (w1:=?_) (v:=?_) (by rfl) rfl ?_ ?_
                    rotate_left 2
                    · go_simp
                      constructor
                      · rfl
                      · rfl
                    refine hK.out _ _ (HSx.out _ HBo.out) (fun hHeld=>?_)
                    clear hK K
                    refine norm_ (a':=?_) ?_ ?_;rotate_left;(show Act.put _ (some 117) _=_;simp only [Act.put,u1_,u2_,u3_,i64_w,i32_w];rfl)
                    refine pu_ (i:=14) (N:=(some 125)) (v:=?_) (a':=?_) #[true,true,true,true,true,true,true,true,true,true,true,true,true,true,true,false] rfl rfl HT_.out (by kernel_rfl) (fun _ _ _ h=>h) (by rfl) ?_ ?_ ?_;rotate_left;(intro w';go_simp;with_reducible rfl);rotate_left;(simp only [Act.put,u1_,u2_,u3_,i64_w,i32_w];rfl)
                    refine pu_ (i:=15) (N:=(some 126)) (v:=?_) (a':=?_) #[true,true,true,true,true,true,true,true,true,true,true,true,true,true,true,true] rfl rfl HT_.out (by kernel_rfl) (fun _ _ _ h=>h) (by rfl) ?_ ?_ ?_;rotate_left;(intro w';go_simp;with_reducible rfl);rotate_left;(simp only [Act.put,u1_,u2_,u3_,i64_w,i32_w];rfl)
                    refine done_ (done_of HT_.out (by kernel_rfl)) ?_;have HWn:=Lib.hid (Kd.R_below HW3.out HBo.out);have HSn:=Lib.hid (Kd.R_below HS3.out HBo.out);have HIn:=Lib.hid (HI3.out.below HBo.out);have HBn:=Lib.hid (bp_ HB3.out HBo.out);clear HW3 HS3 HI3 HB3 HRX HCV HSx MY ON hHeld hte hte2 hsl HBo;have HB:=HBn;clear HBn;obtain ⟨t0,t1,t2,t3⟩:=HIn.out.has
                    go_wp2_with (first|((with_reducible refine gate_builtin (b:=.append) (xs:=#[.tmp 127,.tmp 129]) rfl ?_); at_builtin; refine Kd.R_append Kt (w0:=w) w.heap.size rfl (.tmp 127) (.tmp 129) 45 51 (.agg #[.int .i64 0,.int .i64 0,.float .f64 0,.string ⟨#[]⟩]) 40 rfl Tryd.underlying45 infoIt rfl (by decide) (by omega) vl l ((⟨4,0,u.toNat,⟨#[]⟩⟩ : It)) (It.cs ((⟨4,0,u.toNat,⟨#[]⟩⟩ : It))) (fun _=>True) (fun _=>False) rfl ?aX rfl (fun _ h=>h.elim) (fun _ _=>trivial) HWn.out (hb0_ HB.out) (bz_ (hb0_ HB.out)) ?aL ?_; (case aX=>first|rfl|(rw [World.size_setCell]; rfl)); (case aL=>have:=HLEN.out; omega); intro v130 w130 ho hb hg hat; have HG130:=Lib.hid hg; have HAT130:=Lib.hid hat; clear hg hat; have HO130:=Lib.hid ho; have HB:=Lib.hid hb; clear ho hb; skip))
                    go_roundg (ks.length - (i + 1))
                    case measure=>omega
                    case rel=>exact ⟨i + 1,_,l++[⟨4,0,u.toNat,⟨#[]⟩⟩],p + (8),by omega,rfl,by go_num,by go_num,rfl,Lib.hid (HTO.out.step HBy.out HKI.out HIT.out),HO130,Lib.hid (Kd.R_grown2 HSn.out rfl HG130.out (fun k hk he=>HAP.out k he.symm hk)),Lib.hid ((HAP.out.symm.step HAT130.out (Kd.R_lt HSn.out)).symm),HB⟩
                  · have HTE : Hid (((strOfNums (one ⟨4,0,u.toNat,⟨#[]⟩⟩)).toList == (strOfNums ((b.drop p).take 8)).toList)=false):=Lib.hid (by rw [HEQ.out,HT8.out]; exact df_ hval)
                    have HIT : Hid (item1 b p 4=none):=Lib.hid (by rw [HIT0.out,if_neg (fun h=>hval h.2)])
                    clear HEQ HT8 HIT0 hval
                    have MY:=Lib.hid (fun wx=>May_any ⟨4,0,u.toNat,⟨#[]⟩⟩ wx)
                    rw [HMAY.out] at MY
                    obtain ⟨Aq,hsl,hrdq⟩:=cut_b B c b p (8) (by omega) hc
                    rw [show (((8 : Nat)) : Int)=8 by omega] at hsl
                    have hwp : wrap64 ((p : Int) + (8))=(p : Int) + (8):=by first|(simp only [wrap64]; omega)|(unfold wrap64; split <;> omega)|go_num
                    have HCV : Hid (∀ wx,RdB wx B b→(convert 22 9 (.slice Aq (8) (c - p))).run Tryd.prog wx=.ok (.string (strOfNums ((b.drop p).take (8)))) wx):=Lib.hid (fun wx h=>by
                      have h2:=conv_str (c - p) (hrdq wx h)
                      rwa [show ((b.drop p).take (8)).length=8 by rw [List.length_take,List.length_drop]; omega] at h2)
                    clear hrdq;have HRX:=Lib.hid (Kd.C_below HR.out HB3.out)
                    have ON:=Lib.hid (fun wx=>One_any ⟨4,0,u.toNat,⟨#[]⟩⟩ wx HMAY.out (by simp only; omega))
                    have hte:=HTE.out
                    have hte2 : ((strOfNums (one ⟨4,0,u.toNat,⟨#[]⟩⟩)).toList != (strOfNums ((b.drop p).take (8))).toList)=true:=by rw [bne,hte]; rfl
                    generalize strOfNums ((b.drop p).take (8))=sy at *
                    have HBo:=Lib.hid (be_ (Below.refl wX.heap.size wX))
                    have HSx : Hid (∀ wx,Below wX.heap.size wX wx→HasIt wx g ⟨4,0,u.toNat,⟨#[]⟩⟩∧(convert 22 9 (.slice Aq (8) (c - p))).run Tryd.prog wx=.ok (.string sy) wx):=Lib.hid (fun wx h=>⟨HI3.out.has.below h,HCV.out wx (Kd.C_below HRX.out h)⟩)
                    refine start_ (n:=16) (S:=fun wx=>HasIt wx g ⟨4,0,u.toNat,⟨#[]⟩⟩∧(convert 22 9 (.slice Aq (8) (c - p))).run Tryd.prog wx=.ok (.string sy) wx) (ds:=[]) #[false,false,false,false,false,false,false,false,false,false,false,false,false,false,false,false] (by kernel_rfl) rfl rfl (HSx.out _ HBo.out) (fun hHeld=>?_)
                    refine with_tabW RT30x2b.tab RT30x2b.bits (fun HT_ HW_=>?_)
                    generalize wX.drew=wD at HBo hHeld ⊢
                    refine ta_ (i:=0) (N:=(some 111)) (v:=?_) (a':=?_) #[true,false,false,false,false,false,false,false,false,false,false,false,false,false,false,false] rfl rfl HT_.out HW_.out (by kernel_rfl) (fun _ _ _ h=>h) (by rfl) ?_ hHeld ?_ ?_;rotate_left;(rintro w' ⟨⟨s0,s1,s2,s3⟩,s4⟩;go_simp;with_reducible rfl);rotate_left;(simp only [Act.put,u1_,u2_,u3_,i64_w,i32_w];rfl)
                    refine one_ (i:=1) (N:=(some 112)) #[true,true,false,false,false,false,false,false,false,false,false,false,false,false,false,false] rfl rfl (one_of HT_.out (by kernel_rfl)) (by decide) (fun K hK=>?_)
                    refine goes_ Tryd.func46 (by kernel_rfl) rfl #[(⟨4,0,u.toNat,⟨#[]⟩⟩ : It).v] (by rfl) rfl rfl (by (try simp only [List.map_toArray,List.map_cons,List.map_nil]); first|done|rfl) ?_
                    refine (MY.out _).mono ?_;rintro e w' ⟨rfl,hb'⟩;refine ⟨_,rfl,?_⟩;have HBo:=Lib.hid (bp_ HBo.out hb');clear hb'
                    refine hK.out _ _ (HSx.out _ HBo.out) (fun hHeld=>?_)
                    clear hK K
                    refine norm_ (a':=?_) ?_ ?_;rotate_left;(show Act.put _ (some 112) _=_;simp only [Act.put,u1_,u2_,u3_,i64_w,i32_w];rfl)
                    refine pu_ (i:=2) (N:=(some 113)) (v:=?_) (a':=?_) #[true,true,true,false,false,false,false,false,false,false,false,false,false,false,false,false] rfl rfl HT_.out (by kernel_rfl) (fun _ _ _ h=>h) (by rfl) ?_ ?_ ?_;rotate_left;(intro w';go_simp;with_reducible rfl);rotate_left;(simp only [Act.put,u1_,u2_,u3_,i64_w,i32_w];rfl)
                    refine pu_ (i:=3) (N:=(some 114)) (v:=?_) (a':=?_) #[true,true,true,true,false,false,false,false,false,false,false,false,false,false,false,false] rfl rfl HT_.out (by kernel_rfl) (fun _ _ _ h=>h) (by rfl) ?_ ?_ ?_;rotate_left;(intro w';go_simp;with_reducible rfl);rotate_left;(simp only [Act.put,u1_,u2_,u3_,i64_w,i32_w];rfl)
                    refine ta_ (i:=4) (N:=(some 115)) (v:=?_) (a':=?_) #[true,true,true,true,true,false,false,false,false,false,false,false,false,false,false,false] rfl rfl HT_.out HW_.out (by kernel_rfl) (fun _ _ _ h=>h) (by rfl) ?_ hHeld ?_ ?_;rotate_left;(rintro w' ⟨⟨s0,s1,s2,s3⟩,s4⟩;go_simp;with_reducible rfl);rotate_left;(simp only [Act.put,u1_,u2_,u3_,i64_w,i32_w];rfl)
                    refine pu_ (i:=7) (N:=(some 118)) (v:=?_) (a':=?_) #[true,true,true,true,true,false,false,true,false,false,false,false,false,false,false,false] rfl rfl HT_.out (by kernel_rfl) (fun _ _ _ h=>h) (by rfl) ?_ ?_ ?_;rotate_left;(intro w';go_simp;with_reducible rfl);rotate_left;(simp only [Act.put,u1_,u2_,u3_,i64_w,i32_w];rfl)
                    refine pu_ (i:=8) (N:=(some 119)) (v:=?_) (a':=?_) #[true,true,true,true,true,false,false,true,true,false,false,false,false,false,false,false] rfl rfl HT_.out (by kernel_rfl) (fun _ _ _ h=>h) (by rfl) ?_ ?_ ?_;rotate_left;(intro w';go_simp;with_reducible rfl);rotate_left;(simp only [Act.put,u1_,u2_,u3_,i64_w,i32_w];rfl)
                    refine pu_ (i:=9) (N:=(some 120)) (v:=?_) (a':=?_) #[true,true,true,true,true,false,false,true,true,true,false,false,false,false,false,false] rfl rfl HT_.out (by kernel_rfl) (fun _ _ _ h=>h) (by rfl) ?_ ?_ ?_;rotate_left;(intro w';go_simp;with_reducible rfl);rotate_left;(simp only [Act.put,u1_,u2_,u3_,i64_w,i32_w];rfl)
                    refine pu_ (i:=10) (N:=(some 121)) (v:=?_) (a':=?_) #[true,true,true,true,true,false,false,true,true,true,true,false,false,false,false,false] rfl rfl HT_.out (by kernel_rfl) (fun _ _ _ h=>h) (by rfl) ?_ ?_ ?_;rotate_left;(intro w';go_simp;with_reducible rfl);rotate_left;(simp only [Act.put,u1_,u2_,u3_,i64_w,i32_w];rfl)
                    refine pu_ (i:=11) (N:=(some 122)) (v:=?_) (a':=?_) #[true,true,true,true,true,false,false,true,true,true,true,true,false,false,false,false] rfl rfl HT_.out (by kernel_rfl) (fun _ _ _ h=>h) (by rfl) ?_ ?_ ?_;rotate_left;(intro w';go_simp;with_reducible rfl);rotate_left;(simp only [Act.put,u1_,u2_,u3_,i64_w,i32_w];rfl)
                    refine pu_ (i:=12) (N:=(some 123)) (v:=?_) (a':=?_) #[true,true,true,true,true,false,false,true,true,true,true,true,true,false,false,false] rfl rfl HT_.out (by kernel_rfl) (fun _ _ _ h=>h) (by rfl) ?_ ?_ ?_;rotate_left;(intro w';go_simp;with_reducible rfl);rotate_left;(simp only [Act.put,u1_,u2_,u3_,i64_w,i32_w];rfl)
                    refine ta_ (i:=13) (N:=(some 124)) (v:=?_) (a':=?_) #[true,true,true,true,true,false,false,true,true,true,true,true,true,true,false,false] rfl rfl HT_.out HW_.out (by kernel_rfl) (fun _ _ _ h=>h) (by rfl) ?_ hHeld ?_ ?_;rotate_left;(rintro w' ⟨⟨s0,s1,s2,s3⟩,s4⟩;go_simp;with_reducible rfl);rotate_left;(simp only [Act.put,u1_,u2_,u3_,i64_w,i32_w];rfl)
                    refine one_ (i:=5) (N:=(some 116)) #[true,true,true,true,true,true,false,true,true,true,true,true,true,true,false,false] rfl rfl (one_of HT_.out (by kernel_rfl)) (by decide) (fun K hK=>?_)
                    refine goes_ Tryd.func47 (by kernel_rfl) rfl #[(⟨4,0,u.toNat,⟨#[]⟩⟩ : It).v] (by rfl) rfl rfl (by (try simp only [List.map_toArray,List.map_cons,List.map_nil]); first|done|rfl) ?_
                    refine (ON.out _).mono ?_;rintro e w6 ⟨v6,rfl,hR6,hb'⟩;refine ⟨_,rfl,?_⟩;have HBo:=Lib.hid (bp_ HBo.out hb');obtain ⟨A6,c6,rfl,_,hr6⟩:=Kd.R_reads hR6;have hcv6:=conv_str c6 hr6;clear hb' hR6 hr6
                    refine hK.out _ _ (HSx.out _ HBo.out) (fun hHeld=>?_)
                    clear hK K
                    refine norm_ (a':=?_) ?_ ?_;rotate_left;(show Act.put _ (some 116) _=_;simp only [Act.put,u1_,u2_,u3_,i64_w,i32_w];rfl)
                    refine one_ (i:=6) (N:=(some 117)) #[true,true,true,true,true,true,true,true,true,true,true,true,true,true,false,false] rfl rfl (one_of HT_.out (by kernel_rfl)) (by decide) (fun K hK=>?_)
                    refine value_ (w1:=?_) (v:=?_) (by rfl) rfl ?_ ?_
                    rotate_left 2
                    · go_simp
                      constructor
                      · rfl
                      · rfl
                    refine hK.out _ _ (HSx.out _ HBo.out) (fun hHeld=>?_)
                    clear hK K
                    refine norm_ (a':=?_) ?_ ?_;rotate_left;(show Act.put _ (some 117) _=_;simp only [Act.put,u1_,u2_,u3_,i64_w,i32_w];rfl)
                    refine pu_ (i:=14) (N:=(some 125)) (v:=?_) (a':=?_) #[true,true,true,true,true,true,true,true,true,true,true,true,true,true,true,false] rfl rfl HT_.out (by kernel_rfl) (fun _ _ _ h=>h) (by rfl) ?_ ?_ ?_;rotate_left;(intro w';go_simp;with_reducible rfl);rotate_left;(simp only [Act.put,u1_,u2_,u3_,i64_w,i32_w];rfl)
                    refine pu_ (i:=15) (N:=(some 126)) (v:=?_) (a':=?_) #[true,true,true,true,true,true,true,true,true,true,true,true,true,true,true,true] rfl rfl HT_.out (by kernel_rfl) (fun _ _ _ h=>h) (by rfl) ?_ ?_ ?_;rotate_left;(intro w';go_simp;with_reducible rfl);rotate_left;(simp only [Act.put,u1_,u2_,u3_,i64_w,i32_w];rfl)
                    refine done_ (done_of HT_.out (by kernel_rfl)) ?_;have HBn:=Lib.hid (bp_ HB3.out HBo.out);have HRES:=Lib.hid (HPN.out HIT.out);go_wp2;go_ret3;refine ⟨.slice none 0 0,?_,?_,HBn.out⟩
                    all_goals rw [HRES.out]
                    all_goals first|rfl|exact GotO.nil _ _
            · have hd2 : decide ((b.length : Int) - (p : Int)<(8 : Int))=true:=dt_ (by omega)
              have hres:=HPN.out (by unfold item1; rw [if_pos rfl,if_neg (by omega)])
              have HRES:=Lib.hid hres;clear hres;go_wp2;go_ret3;refine ⟨.slice none 0 0,?_,?_,HB.out⟩
              all_goals rw [HRES.out]
              all_goals first|rfl|exact GotO.nil _ _
          · -- a text
            obtain ⟨sd,rfl,z⟩:=Dsg.RdI_at' HSr.out (j:=5) (e:=(1 : Int)) (by rfl)
            have z2 : wr.cell? ⟨sd.block,sd.off + 5,none⟩=some (.int .i64 1):=z;clear z
            by_cases hle : p + 1≤b.length
            · have hd2 : decide ((b.length : Int) - (p : Int)<(1 : Int))=false:=df_ (by omega)
              go_wp2
              obtain ⟨ws,hws⟩ : ∃ ws,ws=wr:=⟨_,rfl⟩
              go_loopg [13,14] 1 (fun kk v13 v14 wq=>∃ j : Nat,j≤1∧kk=1 - j∧v14=.int .i64 (j : Int)∧v13=.int .u64 (num ((b.drop p).take j))∧wq=ws)
              case atStart=>exact ⟨0,Nat.zero_le _,rfl,rfl,rfl,hws.symm⟩
              case round =>
                subst hws;obtain ⟨j,hj,rfl,rfl,rfl,rfl⟩:=hrel;have j0 : (0 : Int)≤(j : Int):=Int.natCast_nonneg _
                by_cases hjm : j<1
                · have hd3 : decide ((j : Int)<(1 : Int))=true:=dt_ (by omega)
                  have hd3' : decide (j<1)=true:=dt_ hjm
                  have hpj : p + j<b.length:=by omega
                  obtain ⟨bd,rfl,hx⟩:=Kd.at_int HRw.out ((p + j : Nat) : Int) (by omega) (by omega)
                  rw [Int.toNat_natCast] at hx
                  have hrd : rd b ((p + j : Nat) : Int)=rd (b.drop p) (j : Int):=by
                    unfold rd
                    rw [Int.toNat_natCast,Int.toNat_natCast]
                    simp [List.getD_eq_getElem?_getD,List.getElem?_drop]
                  rw [hrd] at hx
                  have HS:=Lib.hid (take_snoc (b.drop p) j (by rw [List.length_drop]; omega))
                  have hX:=(HBy.out.drop p).at_ j (by rw [List.length_drop]; omega)
                  have hU:=num_bd ((HBy.out.drop p).take j)
                  rw [List.length_take,List.length_drop,Nat.min_eq_left (by omega)] at hU
                  have hp56:=pow56 j (by omega)
                  have pj1 : (p : Int) + (j : Int)<(b.length : Int):=by omega
                  generalize rd (b.drop p) (j : Int)=x at *
                  generalize hu : num ((b.drop p).take j)=u at *
                  have HUE:=Lib.hid hu;have u0 : 0≤u:=hU.1
                  have u1 : u<72057594037927936:=by omega
                  have x0 : 0≤x:=hX.1;have x1 : x≤255:=hX.2;clear hu hU hp56 hX hrd;go_wp2;go_roundg (1 - (j + 1))
                  case measure=>omega
                  case rel=>exact ⟨j + 1,by omega,rfl,by go_num,by rw [HS.out,num_snoc,HUE.out],rfl⟩
                · have hd3 : decide ((j : Int)<(1 : Int))=false:=df_ (by omega)
                  have hd3' : decide (j<1)=false:=df_ hjm
                  obtain rfl : 1=j:=by omega
                  have y2 : (wr.alloc (Obj.cells #[Value.int IntKind.i64 5,Value.int IntKind.i64 0,Value.float FloatKind.f64 0,Value.string ⟨#[]⟩] 51)).cell? (ad.add i)=some (.int .i64 5):=(World.cell?_alloc_lt _ _ _ (wb_ wr _ y)).trans y;clear HSr HRw;have hub:=num_bd ((HBy.out.drop p).take 1)
                  rw [show ((b.drop p).take 1).length=1 by rw [List.length_take,List.length_drop]; omega,show (256 : Int) ^ 1=256 by decide] at hub
                  obtain ⟨mm,hmm⟩ : ∃ mm : Nat,num ((b.drop p).take 1)=(mm : Int):=⟨(num ((b.drop p).take 1)).toNat,by omega⟩
                  have HMM:=Lib.hid hmm
                  have HIT0 : Hid (item1 b p 5=if p + 1≤b.length∧p + 1 + mm≤b.length then some (⟨5,0,0,strOfNums ((b.drop (p + 1)).take mm)⟩,p + 1 + mm) else none):=Lib.hid (by
                    unfold item1
                    rw [if_neg (show ¬ ((5 : Int)=4) by decide),if_pos rfl,hmm,Int.toNat_natCast])
                  rw [hmm] at hub ⊢;clear hmm;have m0 : (0 : Int)≤(mm : Int):=hub.1
                  have m1 : (mm : Int)≤255:=by omega
                  have b1 : (b.length : Int)≤1000000:=by omega
                  have p1 : (p : Int)≤(b.length : Int):=by omega
                  clear hub
                  by_cases hle2 : p + 1 + mm≤b.length
                  · have hd5 : decide ((b.length : Int) - (p : Int) - 1<(mm : Int))=false:=df_ (by omega)
                    have HIT : Hid (item1 b p 5=some (⟨5,0,0,strOfNums ((b.drop (p + 1)).take mm)⟩,p + (1 + mm))):=Lib.hid (by rw [HIT0.out,if_pos ⟨hle,hle2⟩,Nat.add_assoc])
                    have HO5:=Lib.hid (rt5 HBy.out hle2 HMM.out)
                    have hlen : ((b.drop (p + 1)).take mm).length=mm:=by rw [List.length_take,List.length_drop]; omega
                    have HMAY : Hid (may ⟨5,0,0,strOfNums ((b.drop (p + 1)).take mm)⟩=true):=Lib.hid (by
                      rw [may_5,size_strOf,hlen]
                      simp
                      omega)
                    have HTE : Hid (((strOfNums (one ⟨5,0,0,strOfNums ((b.drop (p + 1)).take mm)⟩)).toList == (strOfNums ((b.drop p).take (1 + mm))).toList)=true):=Lib.hid (by rw [test_eq HMAY.out ((HBy.out.drop p).take (1 + mm))]; exact dt_ HO5.out)
                    obtain ⟨A9,hsl9,hrd9⟩:=cut_b B c b (p + 1) mm hle2 hc
                    rw [show (((p + 1 : Nat)) : Int)=(p : Int) + 1 by omega] at hsl9
                    have hcv9:=conv_str (c - (p + 1)) (hrd9 _ (Kd.C_alloc (Kd.C_below HR.out HB.out) (Obj.cells #[Value.int IntKind.i64 5,Value.int IntKind.i64 0,Value.float FloatKind.f64 0,Value.string ⟨#[]⟩] 51)));rw [hlen] at hcv9;clear hrd9 HO5 hlen HIT0 HMM
                    generalize strOfNums ((b.drop (p + 1)).take mm)=sx at *
                    go_wp2_with fail;have HI3:=Lib.hid (OI.alloc wr ⟨5,0,0,sx⟩);have HW3:=Lib.hid (ra_ HW.out (It.o ⟨5,0,0,sx⟩));have HS3:=Lib.hid (ra_ HSZr.out (It.o ⟨5,0,0,sx⟩));have HB3:=Lib.hid (ba_ HB.out (It.o ⟨5,0,0,sx⟩))
                    generalize wr.alloc (It.o ⟨5,0,0,sx⟩)=wX at HI3 HW3 HS3 HB3 ⊢
                    generalize wr.heap.size=g at *
                    clear y2 y HB HW HSZr;clear hcv9 hsl9
                    have MY:=Lib.hid (fun wx=>May_any ⟨5,0,0,sx⟩ wx)
                    rw [HMAY.out] at MY
                    obtain ⟨Aq,hsl,hrdq⟩:=cut_b B c b p (1 + mm) (by omega) hc
                    rw [show (((1 + mm : Nat)) : Int)=1 + (mm : Int) by omega] at hsl
                    have hwp : wrap64 ((p : Int) + (1 + (mm : Int)))=(p : Int) + (1 + (mm : Int)):=by first|(simp only [wrap64]; omega)|(unfold wrap64; split <;> omega)|go_num
                    have HCV : Hid (∀ wx,RdB wx B b→(convert 22 9 (.slice Aq (1 + mm) (c - p))).run Tryd.prog wx=.ok (.string (strOfNums ((b.drop p).take (1 + mm)))) wx):=Lib.hid (fun wx h=>by
                      have h2:=conv_str (c - p) (hrdq wx h)
                      rwa [show ((b.drop p).take (1 + mm)).length=1 + mm by rw [List.length_take,List.length_drop]; omega] at h2)
                    clear hrdq;have HRX:=Lib.hid (Kd.C_below HR.out HB3.out)
                    have ON:=Lib.hid (fun wx=>One_any ⟨5,0,0,sx⟩ wx HMAY.out (by simp))
                    have hte:=HTE.out
                    have hte2 : ((strOfNums (one ⟨5,0,0,sx⟩)).toList != (strOfNums ((b.drop p).take (1 + mm))).toList)=false:=by rw [bne,hte]; rfl
                    generalize strOfNums ((b.drop p).take (1 + mm))=sy at *
                    have HBo:=Lib.hid (be_ (Below.refl wX.heap.size wX))
                    have HSx : Hid (∀ wx,Below wX.heap.size wX wx→HasIt wx g ⟨5,0,0,sx⟩∧(convert 22 9 (.slice Aq (1 + mm) (c - p))).run Tryd.prog wx=.ok (.string sy) wx):=Lib.hid (fun wx h=>⟨HI3.out.has.below h,HCV.out wx (Kd.C_below HRX.out h)⟩)
                    refine start_ (n:=16) (S:=fun wx=>HasIt wx g ⟨5,0,0,sx⟩∧(convert 22 9 (.slice Aq (1 + mm) (c - p))).run Tryd.prog wx=.ok (.string sy) wx) (ds:=[]) #[false,false,false,false,false,false,false,false,false,false,false,false,false,false,false,false] (by kernel_rfl) rfl rfl (HSx.out _ HBo.out) (fun hHeld=>?_)
                    refine with_tabW RT30x1e.tab RT30x1e.bits (fun HT_ HW_=>?_)
                    generalize wX.drew=wD at HBo hHeld ⊢
                    refine ta_ (i:=0) (N:=(some 111)) (v:=?_) (a':=?_) #[true,false,false,false,false,false,false,false,false,false,false,false,false,false,false,false] rfl rfl HT_.out HW_.out (by kernel_rfl) (fun _ _ _ h=>h) (by rfl) ?_ hHeld ?_ ?_;rotate_left;(rintro w' ⟨⟨s0,s1,s2,s3⟩,s4⟩;go_simp;with_reducible rfl);rotate_left;(simp only [Act.put,u1_,u2_,u3_,i64_w,i32_w];rfl)
                    refine one_ (i:=1) (N:=(some 112)) #[true,true,false,false,false,false,false,false,false,false,false,false,false,false,false,false] rfl rfl (one_of HT_.out (by kernel_rfl)) (by decide) (fun K hK=>?_)
                    refine goes_ Tryd.func46 (by kernel_rfl) rfl #[(⟨5,0,0,sx⟩ : It).v] (by rfl) rfl rfl (by (try simp only [List.map_toArray,List.map_cons,List.map_nil]); first|done|rfl) ?_
                    refine (MY.out _).mono ?_;rintro e w' ⟨rfl,hb'⟩;refine ⟨_,rfl,?_⟩;have HBo:=Lib.hid (bp_ HBo.out hb');clear hb'
                    refine hK.out _ _ (HSx.out _ HBo.out) (fun hHeld=>?_)
                    clear hK K
                    refine norm_ (a':=?_) ?_ ?_;rotate_left;(show Act.put _ (some 112) _=_;simp only [Act.put,u1_,u2_,u3_,i64_w,i32_w];rfl)
                    refine pu_ (i:=2) (N:=(some 113)) (v:=?_) (a':=?_) #[true,true,true,false,false,false,false,false,false,false,false,false,false,false,false,false] rfl rfl HT_.out (by kernel_rfl) (fun _ _ _ h=>h) (by rfl) ?_ ?_ ?_;rotate_left;(intro w';go_simp;with_reducible rfl);rotate_left;(simp only [Act.put,u1_,u2_,u3_,i64_w,i32_w];rfl)
                    refine pu_ (i:=3) (N:=(some 114)) (v:=?_) (a':=?_) #[true,true,true,true,false,false,false,false,false,false,false,false,false,false,false,false] rfl rfl HT_.out (by kernel_rfl) (fun _ _ _ h=>h) (by rfl) ?_ ?_ ?_;rotate_left;(intro w';go_simp;with_reducible rfl);rotate_left;(simp only [Act.put,u1_,u2_,u3_,i64_w,i32_w];rfl)
                    refine ta_ (i:=4) (N:=(some 115)) (v:=?_) (a':=?_) #[true,true,true,true,true,false,false,false,false,false,false,false,false,false,false,false] rfl rfl HT_.out HW_.out (by kernel_rfl) (fun _ _ _ h=>h) (by rfl) ?_ hHeld ?_ ?_;rotate_left;(rintro w' ⟨⟨s0,s1,s2,s3⟩,s4⟩;go_simp;with_reducible rfl);rotate_left;(simp only [Act.put,u1_,u2_,u3_,i64_w,i32_w];rfl)
                    refine pu_ (i:=7) (N:=(some 118)) (v:=?_) (a':=?_) #[true,true,true,true,true,false,false,true,false,false,false,false,false,false,false,false] rfl rfl HT_.out (by kernel_rfl) (fun _ _ _ h=>h) (by rfl) ?_ ?_ ?_;rotate_left;(intro w';go_simp;with_reducible rfl);rotate_left;(simp only [Act.put,u1_,u2_,u3_,i64_w,i32_w];rfl)
                    refine pu_ (i:=8) (N:=(some 119)) (v:=?_) (a':=?_) #[true,true,true,true,true,false,false,true,true,false,false,false,false,false,false,false] rfl rfl HT_.out (by kernel_rfl) (fun _ _ _ h=>h) (by rfl) ?_ ?_ ?_;rotate_left;(intro w';go_simp;with_reducible rfl);rotate_left;(simp only [Act.put,u1_,u2_,u3_,i64_w,i32_w];rfl)
                    refine pu_ (i:=9) (N:=(some 120)) (v:=?_) (a':=?_) #[true,true,true,true,true,false,false,true,true,true,false,false,false,false,false,false] rfl rfl HT_.out (by kernel_rfl) (fun _ _ _ h=>h) (by rfl) ?_ ?_ ?_;rotate_left;(intro w';go_simp;with_reducible rfl);rotate_left;(simp only [Act.put,u1_,u2_,u3_,i64_w,i32_w];rfl)
                    refine pu_ (i:=10) (N:=(some 121)) (v:=?_) (a':=?_) #[true,true,true,true,true,false,false,true,true,true,true,false,false,false,false,false] rfl rfl HT_.out (by kernel_rfl) (fun _ _ _ h=>h) (by rfl) ?_ ?_ ?_;rotate_left;(intro w';go_simp;with_reducible rfl);rotate_left;(simp only [Act.put,u1_,u2_,u3_,i64_w,i32_w];rfl)
                    refine pu_ (i:=11) (N:=(some 122)) (v:=?_) (a':=?_) #[true,true,true,true,true,false,false,true,true,true,true,true,false,false,false,false] rfl rfl HT_.out (by kernel_rfl) (fun _ _ _ h=>h) (by rfl) ?_ ?_ ?_;rotate_left;(intro w';go_simp;with_reducible rfl);rotate_left;(simp only [Act.put,u1_,u2_,u3_,i64_w,i32_w];rfl)
                    refine pu_ (i:=12) (N:=(some 123)) (v:=?_) (a':=?_) #[true,true,true,true,true,false,false,true,true,true,true,true,true,false,false,false] rfl rfl HT_.out (by kernel_rfl) (fun _ _ _ h=>h) (by rfl) ?_ ?_ ?_;rotate_left;(intro w';go_simp;with_reducible rfl);rotate_left;(simp only [Act.put,u1_,u2_,u3_,i64_w,i32_w];rfl)
                    refine ta_ (i:=13) (N:=(some 124)) (v:=?_) (a':=?_) #[true,true,true,true,true,false,false,true,true,true,true,true,true,true,false,false] rfl rfl HT_.out HW_.out (by kernel_rfl) (fun _ _ _ h=>h) (by rfl) ?_ hHeld ?_ ?_;rotate_left;(rintro w' ⟨⟨s0,s1,s2,s3⟩,s4⟩;go_simp;with_reducible rfl);rotate_left;(simp only [Act.put,u1_,u2_,u3_,i64_w,i32_w];rfl)
                    refine one_ (i:=5) (N:=(some 116)) #[true,true,true,true,true,true,false,true,true,true,true,true,true,true,false,false] rfl rfl (one_of HT_.out (by kernel_rfl)) (by decide) (fun K hK=>?_)
                    refine goes_ Tryd.func47 (by kernel_rfl) rfl #[(⟨5,0,0,sx⟩ : It).v] (by rfl) rfl rfl (by (try simp only [List.map_toArray,List.map_cons,List.map_nil]); first|done|rfl) ?_
                    refine (ON.out _).mono ?_;rintro e w6 ⟨v6,rfl,hR6,hb'⟩;refine ⟨_,rfl,?_⟩;have HBo:=Lib.hid (bp_ HBo.out hb');obtain ⟨A6,c6,rfl,_,hr6⟩:=Kd.R_reads hR6;have hcv6:=conv_str c6 hr6;clear hb' hR6 hr6
                    refine hK.out _ _ (HSx.out _ HBo.out) (fun hHeld=>?_)
                    clear hK K
                    refine norm_ (a':=?_) ?_ ?_;rotate_left;(show Act.put _ (some 116) _=_;simp only [Act.put,u1_,u2_,u3_,i64_w,i32_w];rfl)
                    refine one_ (i:=6) (N:=(some 117)) #[true,true,true,true,true,true,true,true,true,true,true,true,true,true,false,false] rfl rfl (one_of HT_.out (by kernel_rfl)) (by decide) (fun K hK=>?_)
                    refine value_ (w1:=?_) (v:=?_) (by rfl) rfl ?_ ?_
                    rotate_left 2
                    · go_simp
                      constructor
                      · rfl
                      · rfl
                    refine hK.out _ _ (HSx.out _ HBo.out) (fun hHeld=>?_)
                    clear hK K
                    refine norm_ (a':=?_) ?_ ?_;rotate_left;(show Act.put _ (some 117) _=_;simp only [Act.put,u1_,u2_,u3_,i64_w,i32_w];rfl)
                    refine pu_ (i:=14) (N:=(some 125)) (v:=?_) (a':=?_) #[true,true,true,true,true,true,true,true,true,true,true,true,true,true,true,false] rfl rfl HT_.out (by kernel_rfl) (fun _ _ _ h=>h) (by rfl) ?_ ?_ ?_;rotate_left;(intro w';go_simp;with_reducible rfl);rotate_left;(simp only [Act.put,u1_,u2_,u3_,i64_w,i32_w];rfl)
                    refine pu_ (i:=15) (N:=(some 126)) (v:=?_) (a':=?_) #[true,true,true,true,true,true,true,true,true,true,true,true,true,true,true,true] rfl rfl HT_.out (by kernel_rfl) (fun _ _ _ h=>h) (by rfl) ?_ ?_ ?_;rotate_left;(intro w';go_simp;with_reducible rfl);rotate_left;(simp only [Act.put,u1_,u2_,u3_,i64_w,i32_w];rfl)
                    refine done_ (done_of HT_.out (by kernel_rfl)) ?_;have HWn:=Lib.hid (Kd.R_below HW3.out HBo.out);have HSn:=Lib.hid (Kd.R_below HS3.out HBo.out);have HIn:=Lib.hid (HI3.out.below HBo.out);have HBn:=Lib.hid (bp_ HB3.out HBo.out);clear HW3 HS3 HI3 HB3 HRX HCV HSx MY ON hHeld hte hte2 hsl HBo;have HB:=HBn;clear HBn;obtain ⟨t0,t1,t2,t3⟩:=HIn.out.has
                    go_wp2_with (first|((with_reducible refine gate_builtin (b:=.append) (xs:=#[.tmp 127,.tmp 129]) rfl ?_); at_builtin; refine Kd.R_append Kt (w0:=w) w.heap.size rfl (.tmp 127) (.tmp 129) 45 51 (.agg #[.int .i64 0,.int .i64 0,.float .f64 0,.string ⟨#[]⟩]) 40 rfl Tryd.underlying45 infoIt rfl (by decide) (by omega) vl l ((⟨5,0,0,sx⟩ : It)) (It.cs ((⟨5,0,0,sx⟩ : It))) (fun _=>True) (fun _=>False) rfl ?aX rfl (fun _ h=>h.elim) (fun _ _=>trivial) HWn.out (hb0_ HB.out) (bz_ (hb0_ HB.out)) ?aL ?_; (case aX=>first|rfl|(rw [World.size_setCell]; rfl)); (case aL=>have:=HLEN.out; omega); intro v130 w130 ho hb hg hat; have HG130:=Lib.hid hg; have HAT130:=Lib.hid hat; clear hg hat; have HO130:=Lib.hid ho; have HB:=Lib.hid hb; clear ho hb; skip))
                    go_roundg (ks.length - (i + 1))
                    case measure=>omega
                    case rel=>exact ⟨i + 1,_,l++[⟨5,0,0,sx⟩],p + (1 + mm),by omega,rfl,by go_num,by go_num,rfl,Lib.hid (HTO.out.step HBy.out HKI.out HIT.out),HO130,Lib.hid (Kd.R_grown2 HSn.out rfl HG130.out (fun k hk he=>HAP.out k he.symm hk)),Lib.hid ((HAP.out.symm.step HAT130.out (Kd.R_lt HSn.out)).symm),HB⟩
                  · have hd5 : decide ((b.length : Int) - (p : Int) - 1<(mm : Int))=true:=dt_ (by omega)
                    have HIT : Hid (item1 b p 5=none):=Lib.hid (by rw [HIT0.out,if_neg (fun h=>hle2 h.2)])
                    have HRES:=Lib.hid (HPN.out HIT.out);have HBn:=Lib.hid (ba_ HB.out (It.o ⟨5,0,0,⟨#[]⟩⟩));go_wp2;go_ret3;refine ⟨.slice none 0 0,?_,?_,HBn.out⟩
                    all_goals rw [HRES.out]
                    all_goals first|rfl|exact GotO.nil _ _
            · have hd2 : decide ((b.length : Int) - (p : Int)<(1 : Int))=true:=dt_ (by omega)
              have hres:=HPN.out (by unfold item1; rw [if_neg (show ¬ ((5 : Int)=4) by decide),if_pos rfl,if_neg (fun h=>by omega)])
              have HRES:=Lib.hid hres;clear hres;go_wp2;go_ret3;refine ⟨.slice none 0 0,?_,?_,HB.out⟩
              all_goals rw [HRES.out]
              all_goals first|rfl|exact GotO.nil _ _
          · obtain ⟨m,hm4,hm1,hwm,hsz⟩ : ∃ m : Nat,m≤4∧1≤m∧wid (kn : Int)=(m : Int)∧([0,1,2,4,8,1] : List Int)[kn]?=some (m : Int):=by
              rcases hk3 with rfl|rfl|rfl
              · exact ⟨1,by omega,by omega,rfl,rfl⟩
              · exact ⟨2,by omega,by omega,rfl,rfl⟩
              · exact ⟨4,by omega,by omega,rfl,rfl⟩
            have hk3' : (kn : Int)=1∨(kn : Int)=2∨(kn : Int)=3:=by omega
            have g4 : ((kn : Int) == 4)=false:=by rw [beq_eq_false_iff_ne]; omega
            have g5 : ((kn : Int) == 5)=false:=by rw [beq_eq_false_iff_ne]; omega
            have kn0 : (0 : Int)≤(kn : Int):=Int.natCast_nonneg _
            have kn1 : (kn : Int)≤3:=by omega
            have m0 : (0 : Int)≤(m : Int):=Int.natCast_nonneg _
            have m8 : (m : Int)≤4:=by omega
            have hsz:=Lib.hid hsz
            obtain ⟨sd,rfl,z⟩:=Dsg.RdI_at' HSr.out (j:=kn) (e:=(m : Int)) (by exact hsz.out)
            by_cases hle : p + m≤b.length
            · have hd2 : decide ((b.length : Int) - (p : Int)<(m : Int))=false:=df_ (by omega)
              go_wp2
              obtain ⟨ws,hws⟩ : ∃ ws,ws=wr:=⟨_,rfl⟩
              go_loopg [13,14] m (fun kk v13 v14 wq=>∃ j : Nat,j≤m∧kk=m - j∧v14=.int .i64 (j : Int)∧v13=.int .u64 (num ((b.drop p).take j))∧wq=ws)
              case atStart=>exact ⟨0,Nat.zero_le _,rfl,rfl,rfl,hws.symm⟩
              case round =>
                subst hws;obtain ⟨j,hj,rfl,rfl,rfl,rfl⟩:=hrel;have j0 : (0 : Int)≤(j : Int):=Int.natCast_nonneg _
                by_cases hjm : j<m
                · have hd3 : decide ((j : Int)<(m : Int))=true:=dt_ (by omega)
                  have hd3' : decide (j<m)=true:=dt_ hjm
                  have hpj : p + j<b.length:=by omega
                  obtain ⟨bd,rfl,hx⟩:=Kd.at_int HRw.out ((p + j : Nat) : Int) (by omega) (by omega)
                  rw [Int.toNat_natCast] at hx
                  have hrd : rd b ((p + j : Nat) : Int)=rd (b.drop p) (j : Int):=by
                    unfold rd
                    rw [Int.toNat_natCast,Int.toNat_natCast]
                    simp [List.getD_eq_getElem?_getD,List.getElem?_drop]
                  rw [hrd] at hx
                  have HS:=Lib.hid (take_snoc (b.drop p) j (by rw [List.length_drop]; omega))
                  have hX:=(HBy.out.drop p).at_ j (by rw [List.length_drop]; omega)
                  have hU:=num_bd ((HBy.out.drop p).take j)
                  rw [List.length_take,List.length_drop,Nat.min_eq_left (by omega)] at hU
                  have hp56:=pow56 j (by omega)
                  have pj1 : (p : Int) + (j : Int)<(b.length : Int):=by omega
                  generalize rd (b.drop p) (j : Int)=x at *
                  generalize hu : num ((b.drop p).take j)=u at *
                  have HUE:=Lib.hid hu;have u0 : 0≤u:=hU.1
                  have u1 : u<72057594037927936:=by omega
                  have x0 : 0≤x:=hX.1;have x1 : x≤255:=hX.2;clear hu hU hp56 hX hrd;go_wp2;go_roundg (m - (j + 1))
                  case measure=>omega
                  case rel=>exact ⟨j + 1,by omega,rfl,by go_num,by rw [HS.out,num_snoc,HUE.out],rfl⟩
                · have hd3 : decide ((j : Int)<(m : Int))=false:=df_ (by omega)
                  have hd3' : decide (j<m)=false:=df_ hjm
                  obtain rfl : m=j:=by omega
                  have y2 : (wr.alloc (Obj.cells #[Value.int IntKind.i64 (kn : Int),Value.int IntKind.i64 0,Value.float FloatKind.f64 0,Value.string ⟨#[]⟩] 51)).cell? (ad.add i)=some (.int .i64 (kn : Int)):=(World.cell?_alloc_lt _ _ _ (wb_ wr _ y)).trans y;clear HSr HRw;have hub:=num_bd ((HBy.out.drop p).take m)
                  rw [show ((b.drop p).take m).length=m by rw [List.length_take,List.length_drop]; omega] at hub
                  have hp4:=pow32 m hm4;have HO3:=Lib.hid (rt3 HBy.out hle hk3' hwm)
                  generalize hu : num ((b.drop p).take m)=u at *
                  have HIT0 : Hid (item1 b p (kn : Int)=if p + m≤b.length∧may ⟨(kn : Int),u,0,⟨#[]⟩⟩=true then some (⟨(kn : Int),u,0,⟨#[]⟩⟩,p + m) else none):=Lib.hid (by
                    rw [← hu]
                    unfold item1
                    rw [if_neg (by omega),if_neg (by omega),hwm,Int.toNat_natCast])
                  have u0 : 0≤u:=hub.1
                  have u1 : u<4294967296:=by omega
                  clear hu hub hp4;go_wp2_with fail;have HI3:=Lib.hid (OI.alloc wr ⟨(kn : Int),u,0,⟨#[]⟩⟩);have HW3:=Lib.hid (ra_ HW.out (It.o ⟨(kn : Int),u,0,⟨#[]⟩⟩));have HS3:=Lib.hid (ra_ HSZr.out (It.o ⟨(kn : Int),u,0,⟨#[]⟩⟩));have HB3:=Lib.hid (ba_ HB.out (It.o ⟨(kn : Int),u,0,⟨#[]⟩⟩))
                  generalize wr.alloc (It.o ⟨(kn : Int),u,0,⟨#[]⟩⟩)=wX at HI3 HW3 HS3 HB3 ⊢
                  generalize wr.heap.size=g at *
                  clear y2 y HB HW HSZr
                  cases hmy : may ⟨(kn : Int),u,0,⟨#[]⟩⟩ with
                  | true =>
                    have HMAY:=Lib.hid hmy
                    have HTE : Hid (((strOfNums (one ⟨(kn : Int),u,0,⟨#[]⟩⟩)).toList == (strOfNums ((b.drop p).take m)).toList)=true):=Lib.hid (by rw [test_eq hmy ((HBy.out.drop p).take m)]; exact dt_ HO3.out)
                    have HIT : Hid (item1 b p (kn : Int)=some (⟨(kn : Int),u,0,⟨#[]⟩⟩,p + m)):=Lib.hid (by rw [HIT0.out,if_pos ⟨hle,hmy⟩])
                    clear HO3 HIT0 hmy
                    have MY:=Lib.hid (fun wx=>May_any ⟨(kn : Int),u,0,⟨#[]⟩⟩ wx)
                    rw [HMAY.out] at MY
                    obtain ⟨Aq,hsl,hrdq⟩:=cut_b B c b p (m) (by omega) hc
                    have hwp : wrap64 ((p : Int) + ((m : Int)))=(p : Int) + ((m : Int)):=by first|(simp only [wrap64]; omega)|(unfold wrap64; split <;> omega)|go_num
                    have HCV : Hid (∀ wx,RdB wx B b→(convert 22 9 (.slice Aq (m) (c - p))).run Tryd.prog wx=.ok (.string (strOfNums ((b.drop p).take (m)))) wx):=Lib.hid (fun wx h=>by
                      have h2:=conv_str (c - p) (hrdq wx h)
                      rwa [show ((b.drop p).take (m)).length=m by rw [List.length_take,List.length_drop]; omega] at h2)
                    clear hrdq;have HRX:=Lib.hid (Kd.C_below HR.out HB3.out)
                    have ON:=Lib.hid (fun wx=>One_any ⟨(kn : Int),u,0,⟨#[]⟩⟩ wx HMAY.out (by simp))
                    have hte:=HTE.out
                    have hte2 : ((strOfNums (one ⟨(kn : Int),u,0,⟨#[]⟩⟩)).toList != (strOfNums ((b.drop p).take (m))).toList)=false:=by rw [bne,hte]; rfl
                    generalize strOfNums ((b.drop p).take (m))=sy at *
                    have HBo:=Lib.hid (be_ (Below.refl wX.heap.size wX))
                    have HSx : Hid (∀ wx,Below wX.heap.size wX wx→HasIt wx g ⟨(kn : Int),u,0,⟨#[]⟩⟩∧(convert 22 9 (.slice Aq (m) (c - p))).run Tryd.prog wx=.ok (.string sy) wx):=Lib.hid (fun wx h=>⟨HI3.out.has.below h,HCV.out wx (Kd.C_below HRX.out h)⟩)
                    refine start_ (n:=16) (S:=fun wx=>HasIt wx g ⟨(kn : Int),u,0,⟨#[]⟩⟩∧(convert 22 9 (.slice Aq (m) (c - p))).run Tryd.prog wx=.ok (.string sy) wx) (ds:=[]) #[false,false,false,false,false,false,false,false,false,false,false,false,false,false,false,false] (by kernel_rfl) rfl rfl (HSx.out _ HBo.out) (fun hHeld=>?_)
                    refine with_tabW RT30x1c.tab RT30x1c.bits (fun HT_ HW_=>?_)
                    generalize wX.drew=wD at HBo hHeld ⊢
                    refine ta_ (i:=0) (N:=(some 111)) (v:=?_) (a':=?_) #[true,false,false,false,false,false,false,false,false,false,false,false,false,false,false,false] rfl rfl HT_.out HW_.out (by kernel_rfl) (fun _ _ _ h=>h) (by rfl) ?_ hHeld ?_ ?_;rotate_left;(rintro w' ⟨⟨s0,s1,s2,s3⟩,s4⟩;go_simp;with_reducible rfl);rotate_left;(simp only [Act.put,u1_,u2_,u3_,i64_w,i32_w];rfl)
                    refine one_ (i:=1) (N:=(some 112)) #[true,true,false,false,false,false,false,false,false,false,false,false,false,false,false,false] rfl rfl (one_of HT_.out (by kernel_rfl)) (by decide) (fun K hK=>?_)
                    refine goes_ Tryd.func46 (by kernel_rfl) rfl #[(⟨(kn : Int),u,0,⟨#[]⟩⟩ : It).v] (by rfl) rfl rfl (by (try simp only [List.map_toArray,List.map_cons,List.map_nil]); first|done|rfl) ?_
                    refine (MY.out _).mono ?_;rintro e w' ⟨rfl,hb'⟩;refine ⟨_,rfl,?_⟩;have HBo:=Lib.hid (bp_ HBo.out hb');clear hb'
                    refine hK.out _ _ (HSx.out _ HBo.out) (fun hHeld=>?_)
                    clear hK K
                    refine norm_ (a':=?_) ?_ ?_;rotate_left;(show Act.put _ (some 112) _=_;simp only [Act.put,u1_,u2_,u3_,i64_w,i32_w];rfl)
                    refine pu_ (i:=2) (N:=(some 113)) (v:=?_) (a':=?_) #[true,true,true,false,false,false,false,false,false,false,false,false,false,false,false,false] rfl rfl HT_.out (by kernel_rfl) (fun _ _ _ h=>h) (by rfl) ?_ ?_ ?_;rotate_left;(intro w';go_simp;with_reducible rfl);rotate_left;(simp only [Act.put,u1_,u2_,u3_,i64_w,i32_w];rfl)
                    refine pu_ (i:=3) (N:=(some 114)) (v:=?_) (a':=?_) #[true,true,true,true,false,false,false,false,false,false,false,false,false,false,false,false] rfl rfl HT_.out (by kernel_rfl) (fun _ _ _ h=>h) (by rfl) ?_ ?_ ?_;rotate_left;(intro w';go_simp;with_reducible rfl);rotate_left;(simp only [Act.put,u1_,u2_,u3_,i64_w,i32_w];rfl)
                    refine ta_ (i:=4) (N:=(some 115)) (v:=?_) (a':=?_) #[true,true,true,true,true,false,false,false,false,false,false,false,false,false,false,false] rfl rfl HT_.out HW_.out (by kernel_rfl) (fun _ _ _ h=>h) (by rfl) ?_ hHeld ?_ ?_;rotate_left;(rintro w' ⟨⟨s0,s1,s2,s3⟩,s4⟩;go_simp;with_reducible rfl);rotate_left;(simp only [Act.put,u1_,u2_,u3_,i64_w,i32_w];rfl)
                    refine pu_ (i:=7) (N:=(some 118)) (v:=?_) (a':=?_) #[true,true,true,true,true,false,false,true,false,false,false,false,false,false,false,false] rfl rfl HT_.out (by kernel_rfl) (fun _ _ _ h=>h) (by rfl) ?_ ?_ ?_;rotate_left;(intro w';go_simp;with_reducible rfl);rotate_left;(simp only [Act.put,u1_,u2_,u3_,i64_w,i32_w];rfl)
                    refine pu_ (i:=8) (N:=(some 119)) (v:=?_) (a':=?_) #[true,true,true,true,true,false,false,true,true,false,false,false,false,false,false,false] rfl rfl HT_.out (by kernel_rfl) (fun _ _ _ h=>h) (by rfl) ?_ ?_ ?_;rotate_left;(intro w';go_simp;with_reducible rfl);rotate_left;(simp only [Act.put,u1_,u2_,u3_,i64_w,i32_w];rfl)
                    refine pu_ (i:=9) (N:=(some 120)) (v:=?_) (a':=?_) #[true,true,true,true,true,false,false,true,true,true,false,false,false,false,false,false] rfl rfl HT_.out (by kernel_rfl) (fun _ _ _ h=>h) (by rfl) ?_ ?_ ?_;rotate_left;(intro w';go_simp;with_reducible rfl);rotate_left;(simp only [Act.put,u1_,u2_,u3_,i64_w,i32_w];rfl)
                    refine pu_ (i:=10) (N:=(some 121)) (v:=?_) (a':=?_) #[true,true,true,true,true,false,false,true,true,true,true,false,false,false,false,false] rfl rfl HT_.out (by kernel_rfl) (fun _ _ _ h=>h) (by rfl) ?_ ?_ ?_;rotate_left;(intro w';go_simp;with_reducible rfl);rotate_left;(simp only [Act.put,u1_,u2_,u3_,i64_w,i32_w];rfl)
                    refine pu_ (i:=11) (N:=(some 122)) (v:=?_) (a':=?_) #[true,true,true,true,true,false,false,true,true,true,true,true,false,false,false,false] rfl rfl HT_.out (by kernel_rfl) (fun _ _ _ h=>h) (by rfl) ?_ ?_ ?_;rotate_left;(intro w';go_simp;with_reducible rfl);rotate_left;(simp only [Act.put,u1_,u2_,u3_,i64_w,i32_w];rfl)
                    refine pu_ (i:=12) (N:=(some 123)) (v:=?_) (a':=?_) #[true,true,true,true,true,false,false,true,true,true,true,true,true,false,false,false] rfl rfl HT_.out (by kernel_rfl) (fun _ _ _ h=>h) (by rfl) ?_ ?_ ?_;rotate_left;(intro w';go_simp;with_reducible rfl);rotate_left;(simp only [Act.put,u1_,u2_,u3_,i64_w,i32_w];rfl)
                    refine ta_ (i:=13) (N:=(some 124)) (v:=?_) (a':=?_) #[true,true,true,true,true,false,false,true,true,true,true,true,true,true,false,false] rfl rfl HT_.out HW_.out (by kernel_rfl) (fun _ _ _ h=>h) (by rfl) ?_ hHeld ?_ ?_;rotate_left;(rintro w' ⟨⟨s0,s1,s2,s3⟩,s4⟩;go_simp;with_reducible rfl);rotate_left;(simp only [Act.put,u1_,u2_,u3_,i64_w,i32_w];rfl)
                    refine one_ (i:=5) (N:=(some 116)) #[true,true,true,true,true,true,false,true,true,true,true,true,true,true,false,false] rfl rfl (one_of HT_.out (by kernel_rfl)) (by decide) (fun K hK=>?_)
                    refine goes_ Tryd.func47 (by kernel_rfl) rfl #[(⟨(kn : Int),u,0,⟨#[]⟩⟩ : It).v] (by rfl) rfl rfl (by (try simp only [List.map_toArray,List.map_cons,List.map_nil]); first|done|rfl) ?_
                    refine (ON.out _).mono ?_;rintro e w6 ⟨v6,rfl,hR6,hb'⟩;refine ⟨_,rfl,?_⟩;have HBo:=Lib.hid (bp_ HBo.out hb');obtain ⟨A6,c6,rfl,_,hr6⟩:=Kd.R_reads hR6;have hcv6:=conv_str c6 hr6;clear hb' hR6 hr6
                    refine hK.out _ _ (HSx.out _ HBo.out) (fun hHeld=>?_)
                    clear hK K
                    refine norm_ (a':=?_) ?_ ?_;rotate_left;(show Act.put _ (some 116) _=_;simp only [Act.put,u1_,u2_,u3_,i64_w,i32_w];rfl)
                    refine one_ (i:=6) (N:=(some 117)) #[true,true,true,true,true,true,true,true,true,true,true,true,true,true,false,false] rfl rfl (one_of HT_.out (by kernel_rfl)) (by decide) (fun K hK=>?_)
                    refine value_ (w1:=?_) (v:=?_) (by rfl) rfl ?_ ?_
                    rotate_left 2
                    · go_simp
                      constructor
                      · rfl
                      · rfl
                    refine hK.out _ _ (HSx.out _ HBo.out) (fun hHeld=>?_)
                    clear hK K
                    refine norm_ (a':=?_) ?_ ?_;rotate_left;(show Act.put _ (some 117) _=_;simp only [Act.put,u1_,u2_,u3_,i64_w,i32_w];rfl)
                    refine pu_ (i:=14) (N:=(some 125)) (v:=?_) (a':=?_) #[true,true,true,true,true,true,true,true,true,true,true,true,true,true,true,false] rfl rfl HT_.out (by kernel_rfl) (fun _ _ _ h=>h) (by rfl) ?_ ?_ ?_;rotate_left;(intro w';go_simp;with_reducible rfl);rotate_left;(simp only [Act.put,u1_,u2_,u3_,i64_w,i32_w];rfl)
                    refine pu_ (i:=15) (N:=(some 126)) (v:=?_) (a':=?_) #[true,true,true,true,true,true,true,true,true,true,true,true,true,true,true,true] rfl rfl HT_.out (by kernel_rfl) (fun _ _ _ h=>h) (by rfl) ?_ ?_ ?_;rotate_left;(intro w';go_simp;with_reducible rfl);rotate_left;(simp only [Act.put,u1_,u2_,u3_,i64_w,i32_w];rfl)
                    refine done_ (done_of HT_.out (by kernel_rfl)) ?_;have HWn:=Lib.hid (Kd.R_below HW3.out HBo.out);have HSn:=Lib.hid (Kd.R_below HS3.out HBo.out);have HIn:=Lib.hid (HI3.out.below HBo.out);have HBn:=Lib.hid (bp_ HB3.out HBo.out);clear HW3 HS3 HI3 HB3 HRX HCV HSx MY ON hHeld hte hte2 hsl HBo;have HB:=HBn;clear HBn;obtain ⟨t0,t1,t2,t3⟩:=HIn.out.has
                    go_wp2_with (first|((with_reducible refine gate_builtin (b:=.append) (xs:=#[.tmp 127,.tmp 129]) rfl ?_); at_builtin; refine Kd.R_append Kt (w0:=w) w.heap.size rfl (.tmp 127) (.tmp 129) 45 51 (.agg #[.int .i64 0,.int .i64 0,.float .f64 0,.string ⟨#[]⟩]) 40 rfl Tryd.underlying45 infoIt rfl (by decide) (by omega) vl l ((⟨(kn : Int),u,0,⟨#[]⟩⟩ : It)) (It.cs ((⟨(kn : Int),u,0,⟨#[]⟩⟩ : It))) (fun _=>True) (fun _=>False) rfl ?aX rfl (fun _ h=>h.elim) (fun _ _=>trivial) HWn.out (hb0_ HB.out) (bz_ (hb0_ HB.out)) ?aL ?_; (case aX=>first|rfl|(rw [World.size_setCell]; rfl)); (case aL=>have:=HLEN.out; omega); intro v130 w130 ho hb hg hat; have HG130:=Lib.hid hg; have HAT130:=Lib.hid hat; clear hg hat; have HO130:=Lib.hid ho; have HB:=Lib.hid hb; clear ho hb; skip))
                    go_roundg (ks.length - (i + 1))
                    case measure=>omega
                    case rel=>exact ⟨i + 1,_,l++[⟨(kn : Int),u,0,⟨#[]⟩⟩],p + (m),by omega,rfl,by go_num,by go_num,rfl,Lib.hid (HTO.out.step HBy.out HKI.out HIT.out),HO130,Lib.hid (Kd.R_grown2 HSn.out rfl HG130.out (fun k hk he=>HAP.out k he.symm hk)),Lib.hid ((HAP.out.symm.step HAT130.out (Kd.R_lt HSn.out)).symm),HB⟩
                  | false =>
                    have HMAY:=Lib.hid hmy
                    have HIT : Hid (item1 b p (kn : Int)=none):=Lib.hid (by rw [HIT0.out,if_neg (fun h=>by rw [hmy] at h; cases h.2)])
                    clear HO3 HIT0 hmy
                    have MY:=Lib.hid (fun wx=>May_any ⟨(kn : Int),u,0,⟨#[]⟩⟩ wx)
                    rw [HMAY.out] at MY
                    obtain ⟨Aq,hsl,hrdq⟩:=cut_b B c b p (m) (by omega) hc
                    have hwp : wrap64 ((p : Int) + ((m : Int)))=(p : Int) + ((m : Int)):=by first|(simp only [wrap64]; omega)|(unfold wrap64; split <;> omega)|go_num
                    have HCV : Hid (∀ wx,RdB wx B b→(convert 22 9 (.slice Aq (m) (c - p))).run Tryd.prog wx=.ok (.string (strOfNums ((b.drop p).take (m)))) wx):=Lib.hid (fun wx h=>by
                      have h2:=conv_str (c - p) (hrdq wx h)
                      rwa [show ((b.drop p).take (m)).length=m by rw [List.length_take,List.length_drop]; omega] at h2)
                    clear hrdq;have HRX:=Lib.hid (Kd.C_below HR.out HB3.out)
                    generalize strOfNums ((b.drop p).take (m))=sy at *
                    have HBo:=Lib.hid (be_ (Below.refl wX.heap.size wX))
                    have HSx : Hid (∀ wx,Below wX.heap.size wX wx→HasIt wx g ⟨(kn : Int),u,0,⟨#[]⟩⟩∧(convert 22 9 (.slice Aq (m) (c - p))).run Tryd.prog wx=.ok (.string sy) wx):=Lib.hid (fun wx h=>⟨HI3.out.has.below h,HCV.out wx (Kd.C_below HRX.out h)⟩)
                    refine start_ (n:=16) (S:=fun wx=>HasIt wx g ⟨(kn : Int),u,0,⟨#[]⟩⟩∧(convert 22 9 (.slice Aq (m) (c - p))).run Tryd.prog wx=.ok (.string sy) wx) (ds:=[]) #[false,false,false,false,false,false,false,false,false,false,false,false,false,false,false,false] (by kernel_rfl) rfl rfl (HSx.out _ HBo.out) (fun hHeld=>?_)
                    refine with_tabW RT30x3d.tab RT30x3d.bits (fun HT_ HW_=>?_)
                    generalize wX.drew=wD at HBo hHeld ⊢
                    refine ta_ (i:=0) (N:=(some 111)) (v:=?_) (a':=?_) #[true,false,false,false,false,false,false,false,false,false,false,false,false,false,false,false] rfl rfl HT_.out HW_.out (by kernel_rfl) (fun _ _ _ h=>h) (by rfl) ?_ hHeld ?_ ?_;rotate_left;(rintro w' ⟨⟨s0,s1,s2,s3⟩,s4⟩;go_simp;with_reducible rfl);rotate_left;(simp only [Act.put,u1_,u2_,u3_,i64_w,i32_w];rfl)
                    refine one_ (i:=1) (N:=(some 112)) #[true,true,false,false,false,false,false,false,false,false,false,false,false,false,false,false] rfl rfl (one_of HT_.out (by kernel_rfl)) (by decide) (fun K hK=>?_)
                    refine goes_ Tryd.func46 (by kernel_rfl) rfl #[(⟨(kn : Int),u,0,⟨#[]⟩⟩ : It).v] (by rfl) rfl rfl (by (try simp only [List.map_toArray,List.map_cons,List.map_nil]); first|done|rfl) ?_
                    refine (MY.out _).mono ?_;rintro e w' ⟨rfl,hb'⟩;refine ⟨_,rfl,?_⟩;have HBo:=Lib.hid (bp_ HBo.out hb');clear hb'
                    refine hK.out _ _ (HSx.out _ HBo.out) (fun hHeld=>?_)
                    clear hK K
                    refine norm_ (a':=?_) ?_ ?_;rotate_left;(show Act.put _ (some 112) _=_;simp only [Act.put,u1_,u2_,u3_,i64_w,i32_w];rfl)
                    refine pu_ (i:=2) (N:=(some 113)) (v:=?_) (a':=?_) #[true,true,true,false,false,false,false,false,false,false,false,false,false,false,false,false] rfl rfl HT_.out (by kernel_rfl) (fun _ _ _ h=>h) (by rfl) ?_ ?_ ?_;rotate_left;(intro w';go_simp;with_reducible rfl);rotate_left;(simp only [Act.put,u1_,u2_,u3_,i64_w,i32_w];rfl)
                    refine pu_ (i:=3) (N:=(some 114)) (v:=?_) (a':=?_) #[true,true,true,true,false,false,false,false,false,false,false,false,false,false,false,false] rfl rfl HT_.out (by kernel_rfl) (fun _ _ _ h=>h) (by rfl) ?_ ?_ ?_;rotate_left;(intro w';go_simp;with_reducible rfl);rotate_left;(simp only [Act.put,u1_,u2_,u3_,i64_w,i32_w];rfl)
                    refine pv_ (i:=4) (N:=(some 115)) (a':=?_) #[true,true,true,true,true,false,false,false,false,false,false,false,false,false,false,false] rfl rfl HT_.out (by kernel_rfl) (fun _ _ _ h=>h) (by rfl) ?_ ?_;rotate_left;(simp only [Act.put,u1_,u2_,u3_,i64_w,i32_w];rfl)
                    refine pv_ (i:=5) (N:=(some 116)) (a':=?_) #[true,true,true,true,true,true,false,false,false,false,false,false,false,false,false,false] rfl rfl HT_.out (by kernel_rfl) (fun _ _ _ h=>h) (by rfl) ?_ ?_;rotate_left;(simp only [Act.put,u1_,u2_,u3_,i64_w,i32_w];rfl)
                    refine pv_ (i:=6) (N:=(some 117)) (a':=?_) #[true,true,true,true,true,true,true,false,false,false,false,false,false,false,false,false] rfl rfl HT_.out (by kernel_rfl) (fun _ _ _ h=>h) (by rfl) ?_ ?_;rotate_left;(simp only [Act.put,u1_,u2_,u3_,i64_w,i32_w];rfl)
                    refine pv_ (i:=7) (N:=(some 118)) (a':=?_) #[true,true,true,true,true,true,true,true,false,false,false,false,false,false,false,false] rfl rfl HT_.out (by kernel_rfl) (fun _ _ _ h=>h) (by rfl) ?_ ?_;rotate_left;(simp only [Act.put,u1_,u2_,u3_,i64_w,i32_w];rfl)
                    refine pv_ (i:=8) (N:=(some 119)) (a':=?_) #[true,true,true,true,true,true,true,true,true,false,false,false,false,false,false,false] rfl rfl HT_.out (by kernel_rfl) (fun _ _ _ h=>h) (by rfl) ?_ ?_;rotate_left;(simp only [Act.put,u1_,u2_,u3_,i64_w,i32_w];rfl)
                    refine pv_ (i:=9) (N:=(some 120)) (a':=?_) #[true,true,true,true,true,true,true,true,true,true,false,false,false,false,false,false] rfl rfl HT_.out (by kernel_rfl) (fun _ _ _ h=>h) (by rfl) ?_ ?_;rotate_left;(simp only [Act.put,u1_,u2_,u3_,i64_w,i32_w];rfl)
                    refine pv_ (i:=10) (N:=(some 121)) (a':=?_) #[true,true,true,true,true,true,true,true,true,true,true,false,false,false,false,false] rfl rfl HT_.out (by kernel_rfl) (fun _ _ _ h=>h) (by rfl) ?_ ?_;rotate_left;(simp only [Act.put,u1_,u2_,u3_,i64_w,i32_w];rfl)
                    refine pv_ (i:=11) (N:=(some 122)) (a':=?_) #[true,true,true,true,true,true,true,true,true,true,true,true,false,false,false,false] rfl rfl HT_.out (by kernel_rfl) (fun _ _ _ h=>h) (by rfl) ?_ ?_;rotate_left;(simp only [Act.put,u1_,u2_,u3_,i64_w,i32_w];rfl)
                    refine pv_ (i:=12) (N:=(some 123)) (a':=?_) #[true,true,true,true,true,true,true,true,true,true,true,true,true,false,false,false] rfl rfl HT_.out (by kernel_rfl) (fun _ _ _ h=>h) (by rfl) ?_ ?_;rotate_left;(simp only [Act.put,u1_,u2_,u3_,i64_w,i32_w];rfl)
                    refine pv_ (i:=13) (N:=(some 124)) (a':=?_) #[true,true,true,true,true,true,true,true,true,true,true,true,true,true,false,false] rfl rfl HT_.out (by kernel_rfl) (fun _ _ _ h=>h) (by rfl) ?_ ?_;rotate_left;(simp only [Act.put,u1_,u2_,u3_,i64_w,i32_w];rfl)
                    refine pv_ (i:=14) (N:=(some 125)) (a':=?_) #[true,true,true,true,true,true,true,true,true,true,true,true,true,true,true,false] rfl rfl HT_.out (by kernel_rfl) (fun _ _ _ h=>h) (by rfl) ?_ ?_;rotate_left;(simp only [Act.put,u1_,u2_,u3_,i64_w,i32_w];rfl)
                    refine pu_ (i:=15) (N:=(some 126)) (v:=?_) (a':=?_) #[true,true,true,true,true,true,true,true,true,true,true,true,true,true,true,true] rfl rfl HT_.out (by kernel_rfl) (fun _ _ _ h=>h) (by rfl) ?_ ?_ ?_;rotate_left;(intro w';go_simp;with_reducible rfl);rotate_left;(simp only [Act.put,u1_,u2_,u3_,i64_w,i32_w];rfl)
                    refine done_ (done_of HT_.out (by kernel_rfl)) ?_;have HBn:=Lib.hid (bp_ HB3.out HBo.out);have HRES:=Lib.hid (HPN.out HIT.out);go_wp2;go_ret3;refine ⟨.slice none 0 0,?_,?_,HBn.out⟩
                    all_goals rw [HRES.out]
                    all_goals first|rfl|exact GotO.nil _ _
            · have hd2 : decide ((b.length : Int) - (p : Int)<(m : Int))=true:=dt_ (by omega)
              have hres:=HPN.out (by unfold item1; rw [if_neg (by omega),if_neg (by omega),hwm,Int.toNat_natCast,if_neg (by omega)])
              have HRES:=Lib.hid hres;clear hres;go_wp2;go_ret3;refine ⟨.slice none 0 0,?_,?_,HB.out⟩
              all_goals rw [HRES.out]
              all_goals first|rfl|exact GotO.nil _ _
        · have hd : decide (i<ks.length)=false:=df_ hlt
          obtain rfl : ks.length=i:=by omega
          have hres : Hid (takeR b ks=(l,(p : Int),0)):=Lib.hid (by
            unfold takeR
            rw [if_pos HKO.out,HTO.out.last])
          go_wp2;go_ret3;refine ⟨vl,?_,?_,HB.out⟩
          · rw [hres.out]; rfl
          · rw [hres.out]; exact ⟨HW.out,HTO.out.2.1⟩
end Go.Proofs.YtbmcbhpkefjhbaaDoor.Pac
namespace Go.Proofs.YtbmcbhpkefjhbaaDoor.P
open Go.RowKit YtbmcbhpkefjhbaaDoor YtbmcbhpkefjhbaaDoor.Mem YtbmcbhpkefjhbaaDoor.Pac YtbmcbhpkefjhbaaDoorW.PrintWords YtbmcbhpkefjhbaaDoorW.PrintLast YtbmcbhpkefjhbaaDoorW.PrintMore
abbrev SIt:=S51
abbrev kIt : Kd SIt:=k51
def itOf (x : SIt) : It:=⟨x.f0,x.f1,x.f2,x.f3⟩
def ofIt (a : It) : SIt:=⟨a.k,a.n,a.x,a.s⟩
theorem reps_map {α β : Type} {R : α→List Value→Prop} {R' : β→List Value→Prop} (f : α→β) {size : Nat} {ps : List α} {cs : List Value} (h : Reps R size ps cs) (hR : ∀ p c,R p c→R' (f p) c) : Reps R' size (ps.map f) cs:=⟨by rw [List.length_map]; exact h.1,fun j p hj=>by
  rw [List.getElem?_map] at hj;obtain ⟨q,hq,rfl⟩:=Option.map_eq_some_iff.1 hj
  exact hR _ _ (h.2 j q hq)⟩
theorem R_items {w : World} {base : Nat} {ok : Nat→Prop} {v : Value} {l : List It} (h : Kd.R Kt 51 w base ok v l) : Kd.R kIt 51 w base ok v (l.map ofIt):=⟨h.1,by
  obtain ⟨inner,ho,hr⟩:=h.2
  refine ⟨inner,by rw [List.length_map]; exact ho,reps_map ofIt hr (fun p c hp=>?_)⟩
  have hp' : c=p.cs:=hp;subst hp'
  exact k51_mkM _ _ _ (ofIt p)⟩
def bdX (l : List SIt) : Bool:=l.all (fun x=>decide (x.f2<18446744073709551616))
def byB (l : List Int) : Bool:=l.all (fun x=>decide (0≤x) && decide (x≤255))
theorem byB_bytes {l : List Int} : byB l=true ↔ Bytes l:=by
  unfold byB Bytes
  simp [List.all_eq_true]
theorem C_items {w : World} {A : Option Addr} {n : Nat} {l : List SIt} (h : Kd.C kIt w A n l) (hx : bdX l=true) : RdT w A (l.map itOf):=by
  intro j a hj;rw [List.getElem?_map] at hj;obtain ⟨q,hq,rfl⟩:=Option.map_eq_some_iff.1 hj;have hlt:=(List.getElem?_eq_some_iff.1 hq).1;have hn:=h.1
  obtain ⟨ad,e,hc⟩:=h.2.2 (by omega)
  obtain ⟨c,hs,hr,hcell⟩:=hc j q hq;have hc':=k51_open hr;subst hc';have x0:=hcell 0 _ rfl;have x1:=hcell 1 _ rfl;have x2:=hcell 2 _ rfl;have x3:=hcell 3 _ rfl
  rw [show Kd.sz kIt=4 from rfl] at x0 x1 x2 x3
  rw [add4 _ _ _ (by omega)] at x1 x2 x3
  have hb:=hx
  unfold bdX at hb
  rw [List.all_eq_true] at hb;exact ⟨ad,e,⟨x0,x1,x2,x3⟩,od_ (hb q (List.mem_of_getElem? hq))⟩
def pack_Put.f (l0 : List SIt) : Option (List Int × Int):=if l0.length≤1000∧bdX l0=true then some (if (l0.map itOf).all may=true then ones (l0.map itOf) else [],erOf ((l0.map itOf).all may)) else none
def humusref03_Put.f (l0 : List SIt) : Option (List Int × Bool):=if l0.length≤1000∧bdX l0=true then some (if (l0.map itOf).all may=true then ones (l0.map itOf) else [],(l0.map itOf).all may) else none
theorem humusref03_Put.calls (A0 : Option Addr) (c0 : Nat) (l0 : List SIt) (r1 : List Int) (r2 : Bool) (w : World) (hr0 : Kd.C kIt w A0 l0.length l0) (hc0 : l0.length≤c0) (h : humusref03_Put.f l0=some (r1,r2)) :
    Calls Tryd.prog 35 #[.slice A0 l0.length c0] w fun e w'=>∃ v0_ : Value,e=.returned (.tuple #[v0_,.bool r2])∧Kd.R (Kd.int .u8) 5 w' w.heap.size (fun _=>True) v0_ r1∧Below w.heap.size w w':=by
  unfold humusref03_Put.f at h
  split at h
  · rename_i hx
    injection h with h
    injection h with h1 h2
    subst h1 h2
    have:=rPut_any A0 c0 (l0.map itOf) w (C_items hr0 hx.2) (by rw [List.length_map]; exact hx.1)
    rw [List.length_map] at this
    exact this.mono (fun e w' h=>h)
  · cases h
def takeF (l0 l1 : List Int) : Option (List SIt × Int × Int):=if byB l0=true∧l0.length≤1000000∧l1.length≤1000000 then some ((takeR l0 l1).1.map ofIt,(takeR l0 l1).2.1,(takeR l0 l1).2.2) else none
def pack_Take.f (l0 l1 : List Int) : Option (List SIt × Int × Int):=takeF l0 l1
theorem pack_Take.calls (A0 : Option Addr) (c0 : Nat) (l0 : List Int) (A1 : Option Addr) (c1 : Nat) (l1 : List Int) (r1 : List SIt) (r2 r3 : Int) (w : World) (hr0 : Kd.C (Kd.int .u8) w A0 l0.length l0) (hc0 : l0.length≤c0) (hr1 : Kd.C (Kd.int .i64) w A1 l1.length l1) (hc1 : l1.length≤c1) (h : pack_Take.f l0 l1=some (r1,r2,r3)) :
    Calls Tryd.prog 22 #[.slice A0 l0.length c0,.slice A1 l1.length c1] w fun e w'=>∃ v0_ : Value,e=.returned (.tuple #[v0_,.int .i64 r2,.int .i64 r3])∧Kd.R kIt 51 w' w.heap.size (fun _=>True) v0_ r1∧Below w.heap.size w w':=by
  unfold pack_Take.f takeF at h
  split at h
  · rename_i hx
    injection h with h
    injection h with h1 h2
    injection h2 with h2 h3
    subst h1 h2 h3;refine (Take_any A0 c0 l0 A1 c1 l1 w hr0 (byB_bytes.1 hx.1) hx.2.1 hc0 hr1 hx.2.2).mono ?_;rintro e w' ⟨v,rfl,ho,hb⟩;exact ⟨v,rfl,R_items ho.1,hb⟩
  · cases h
def humusref03_Take.f (l0 l1 : List Int) : Option (List SIt × Int × Int):=takeF l0 l1
theorem humusref03_Take.calls (A0 : Option Addr) (c0 : Nat) (l0 : List Int) (A1 : Option Addr) (c1 : Nat) (l1 : List Int) (r1 : List SIt) (r2 r3 : Int) (w : World) (hr0 : Kd.C (Kd.int .u8) w A0 l0.length l0) (hc0 : l0.length≤c0) (hr1 : Kd.C (Kd.int .i64) w A1 l1.length l1) (hc1 : l1.length≤c1) (h : humusref03_Take.f l0 l1=some (r1,r2,r3)) :
    Calls Tryd.prog 26 #[.slice A0 l0.length c0,.slice A1 l1.length c1] w fun e w'=>∃ v0_ : Value,e=.returned (.tuple #[v0_,.int .i64 r2,.int .i64 r3])∧Kd.R kIt 51 w' w.heap.size (fun _=>True) v0_ r1∧Below w.heap.size w w':=by
  unfold humusref03_Take.f takeF at h
  split at h
  · rename_i hx
    injection h with h
    injection h with h1 h2
    injection h2 with h2 h3
    subst h1 h2 h3;refine (rTake_any A0 c0 l0 A1 c1 l1 w hr0 (byB_bytes.1 hx.1) hx.2.1 hc0 hr1 hx.2.2).mono ?_;rintro e w' ⟨v,rfl,ho,hb⟩;exact ⟨v,rfl,R_items ho.1,hb⟩
  · cases h
end Go.Proofs.YtbmcbhpkefjhbaaDoor.P
