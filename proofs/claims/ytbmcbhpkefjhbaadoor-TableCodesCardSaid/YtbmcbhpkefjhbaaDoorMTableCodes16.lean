/- by wip/prune.py -/
import Derived.Test.YtbmcbhpkefjhbaaDoorMTableCodes8
import Derived.Defers
import Derived.Recover
import Derived.Test.YtbmcbhpkefjhbaaDoorMTableCodes15
set_option linter.unusedSimpArgs false
set_option linter.unusedVariables false
namespace Go.Proofs.YtbmcbhpkefjhbaaDoor.Pac
open Go.RowKit YtbmcbhpkefjhbaaDoor YtbmcbhpkefjhbaaDoor.Mem YtbmcbhpkefjhbaaDoorW.PrintWords YtbmcbhpkefjhbaaDoorW.PrintLast YtbmcbhpkefjhbaaDoorW.PrintMore
structure TK (w : World) (g : Nat) (B : Option Addr) (c : Nat) (b : List Int) (at_ : Nat) : Prop where
  c0 : w.cell? ⟨g,0,none⟩=some (.slice B b.length c)
  c1 : w.cell? ⟨g,1,none⟩=some (.int .i64 (at_ : Int))
  fz : w.frozen? ⟨g,1,none⟩=false
  rd : RdB w B b
  far : ∀ ad,B=some ad→0<b.length→ad.block≠g
  cap : b.length≤c
theorem TK.below {w w' : World} {g : Nat} {B : Option Addr} {c : Nat} {b : List Int} {p : Nat} (h : TK w g B c b p) (hb : Below w.heap.size w w') : TK w' g B c b p where
  c0:=(hb.cell (wb_ w _ h.c0)).trans h.c0
  c1:=(hb.cell (wb_ w _ h.c1)).trans h.c1
  fz:=(hb.frozen (wb_ w _ h.c1)).trans h.fz
  rd:=Kd.C_below h.rd hb
  far:=h.far
  cap:=h.cap
theorem RdB_grown {w w' : World} {g : Nat} {B : Option Addr} {b : List Int} (h : RdB w B b) (hg : w.grownBy w' (some g)) (hf : ∀ ad,B=some ad→0<b.length→ad.block≠g) : RdB w' B b:=by
  obtain ⟨h1,h2,h3⟩:=Kd.reads_of_C (d:=(0 : Int)) h
  refine Kd.C_of_reads (h1:=fun _=>rfl) (d:=(0 : Int)) ⟨h1,h2,fun hp=>?_⟩
  obtain ⟨ad,e,hc⟩:=h3 hp
  refine ⟨ad,e,fun j hj=>hg.cell (hc j hj) ?_⟩
  intro hh
  injection hh with hh
  rw [show (ad.add j).block=ad.block by unfold Addr.add; split <;> rfl] at hh
  exact hf ad e hp hh
theorem grown_set (w : World) (g i : Nat) (v : Value) : w.grownBy (w.setCell ⟨g,i,none⟩ v) (some g):=⟨rfl,rfl,rfl,by show _≤(w.setCell ⟨g,i,none⟩ v).heap.size; rw [World.size_setCell]; exact Nat.le_refl _,fun k _ hne=>Below.heap_setCell w ⟨g,i,none⟩ v k (fun h=>hne (by rw [h]))⟩
theorem TK.set {w : World} {g : Nat} {B : Option Addr} {c : Nat} {b : List Int} {p : Nat} (h : TK w g B c b p) (q : Nat) (z : Int) (hz : z=(q : Int)) : TK (w.setCell ⟨g,1,none⟩ (.int .i64 z)) g B c b q where
  c0:=(World.cell?_setCell_other _ _ _ _ (by intro hh; injection hh with _ hh _; cases hh)).trans h.c0
  c1:=by rw [World.cell?_setCell_same _ _ _ h.c1,hz]
  fz:=by rw [World.frozen?_setCell]; exact h.fz
  rd:=RdB_grown h.rd (grown_set _ _ _ _) h.far
  far:=h.far
  cap:=h.cap
theorem grown_drewN (w : World) (n : Nat) (row : Option Nat) : w.grownBy (w.drewN n) row:=⟨rfl,rfl,rfl,Nat.le_refl _,fun _ _ _=>rfl⟩
theorem TK.drewN {w : World} {g : Nat} {B : Option Addr} {c : Nat} {b : List Int} {p : Nat} (h : TK w g B c b p) (n : Nat) : TK (w.drewN n) g B c b p:=h.below (bd_ (Below.refl _ _) n)
def TkPost (w : World) (g : Nat) (B : Option Addr) (c : Nat) (b : List Int) (p n : Nat) (e : Ending) (w' : World) : Prop :=
  w.grownBy w' (some g)∧((p + n≤b.length∧TK w' g B c b (p + n)∧∃ A' c',e=.returned (.slice A' n c')∧RdB w' A' ((b.drop p).take n))∨(b.length<p + n∧∃ pv : Int,e=.panicked [{ v:=.iface 70 (.agg #[.int .i64 pv]),recovered:=false }]))
set_option maxRecDepth 100000 in
theorem cut_b (A : Option Addr) (c : Nat) (l : List Int) (lo n : Nat) (hl : lo + n≤l.length) (hc : l.length≤c) :
    ∃ A',(∀ W : World,(Instr.slice 22 (.slice A l.length c) (some (.int .i64 (lo : Int))) (some (.int .i64 ((lo : Int) + (n : Int)))) none).run Tryd.prog W=.ok (.slice A' n (c - lo)) W)∧∀ w,RdB w A l→RdB w A' ((l.drop lo).take n):=by
  obtain ⟨i0,hi0,_,hsz,_⟩:=info_parts info8
  refine ⟨if c=lo then A else A.map (·.add (lo * 1)),fun W=>?_,fun w h=>?_⟩
  · have h:=cut_mid (P:=Tryd.prog) 22 5 .i64 .i64 Tryd.underlying22 hi0 1 hsz A l.length c (lo : Int) ((lo : Int) + (n : Int)) (by omega) (by omega) (by omega) hc W
    rw [h,Int.toNat_natCast,show ((lo : Int) + (n : Int)).toNat - lo=n by omega]
  · have h:=Kd.C_mid (lo:=lo) (hi:=lo + n) h (by omega) hl hc
    rw [show ((l.take (lo + n)).drop lo)=(l.drop lo).take n by rw [List.drop_take]; congr 1; omega] at h
    exact h
set_option maxRecDepth 100000 in
theorem tk_bytes (w : World) (g : Nat) (B : Option Addr) (c : Nat) (b : List Int) (p n : Nat) (h : TK w g B c b p) (hb : b.length≤1000000) (hp : p≤b.length) (hn : n≤1000) :
    Calls Tryd.prog 63 #[.pointer (some ⟨g,0,none⟩),.int .i64 (n : Int)] w fun e w'=>TkPost w g B c b p n e w':=by
  have HT:=Lib.hid h;have p0 : (0 : Int)≤(p : Int):=Int.natCast_nonneg _;have n0 : (0 : Int)≤(n : Int):=Int.natCast_nonneg _;have b0 : (0 : Int)≤(b.length : Int):=Int.natCast_nonneg _
  have b1 : (b.length : Int)≤1000000:=by omega
  have p1 : (p : Int)≤(b.length : Int):=by omega
  have n1 : (n : Int)≤1000:=by omega
  obtain ⟨c0,c1,fz,rd,far,cap⟩:=h;clear rd far
  by_cases hlt : p + n≤b.length
  · have hd : decide ((b.length : Int) - (p : Int)<(n : Int))=false:=df_ (by omega)
    go_enter Tryd.func63,Tryd.ntmps63;go_wp2;go_quiet (fail);have HT1:=Lib.hid (HT.out.drewN nq);have HG1:=Lib.hid (grown_drewN w nq (some g));obtain ⟨d0,d1,df,_,_,_⟩:=HT1.out;go_wp2
    have HT2:=Lib.hid (HT1.out.set (p + n) ((p : Int) + (n : Int)) (by omega))
    have HG2:=Lib.hid (World.grownBy.trans HG1.out (grown_set (w.drewN nq) g 1 (.int .i64 ((p : Int) + (n : Int)))))
    generalize (w.drewN nq).setCell ⟨g,1,none⟩ (.int .i64 ((p : Int) + (n : Int)))=w2 at HT2 HG2 ⊢
    obtain ⟨A',hsl,hrd⟩:=cut_b B c b p n hlt cap;have HRD:=Lib.hid hrd;have y0:=HT2.out.c0;have y1:=HT2.out.c1
    rw [show (((p + n : Nat) : Int))=(p : Int) + (n : Int) by omega] at y1
    clear hrd d0 d1 df c0 c1 fz;go_quiet (fail);go_wp2;go_ret;exact ⟨World.grownBy.trans HG2.out (grown_drewN _ _ _),.inl ⟨hlt,HT2.out.drewN _,A',_,rfl,HRD.out _ (Kd.C_drewN HT2.out.rd _)⟩⟩
  · have hd : decide ((b.length : Int) - (p : Int)<(n : Int))=true:=dt_ (by omega)
    go_enter Tryd.func63,Tryd.ntmps63;go_wp2;go_quiet (fail);go_wp2
    exact ⟨rfl,grown_drewN _ _ _,.inr ⟨by omega,_,rfl⟩⟩
theorem or_lo (u x : Int) (hu : 0≤u) (hu2 : u<72057594037927936) (h0 : 0≤x) (h1 : x≤255) : bits BinOp.or IntKind.u64 (IntKind.u64.wrap (u * 256)) x=u * 256 + x:=by
  have hw : IntKind.u64.wrap (u * 256)=u * 256:=by rw [IntKind.wrap_u64]; omega
  rw [hw];obtain ⟨a,rfl⟩:=Int.eq_ofNat_of_zero_le hu;obtain ⟨b,rfl⟩:=Int.eq_ofNat_of_zero_le h0
  unfold bits
  have e1 : BitVec.ofInt IntKind.u64.bits ((a : Int) * 256)=BitVec.ofNat 64 (a * 256):=by
    show BitVec.ofInt 64 _=_
    rw [show ((a : Int) * 256)=((a * 256 : Nat) : Int) by omega,BitVec.ofInt_natCast]
  have e2 : BitVec.ofInt IntKind.u64.bits (b : Int)=BitVec.ofNat 64 b:=by
    show BitVec.ofInt 64 _=_
    rw [BitVec.ofInt_natCast]
  simp only [e1,e2]
  have e3 : (BitVec.ofNat 64 (a * 256) ||| BitVec.ofNat 64 b).toNat=a * 256 + b:=by
    rw [BitVec.toNat_or,BitVec.toNat_ofNat,BitVec.toNat_ofNat,Nat.mod_eq_of_lt (by omega),Nat.mod_eq_of_lt (by omega)]
    have:=Nat.shiftLeft_add_eq_or_of_lt (i:=8) (b:=b) (by omega) a
    rw [Nat.shiftLeft_eq,show 2 ^ 8=256 from rfl] at this
    omega
  show IntKind.u64.wrap ((BitVec.ofNat 64 (a * 256) ||| BitVec.ofNat 64 b).toNat : Int)=_
  rw [e3,IntKind.wrap_u64];omega
theorem foldl_bd : ∀ (l : List Int) (u : Int) (k : Nat),(∀ x ∈ l,0≤x∧x≤255)→0≤u→u<256 ^ k→0≤l.foldl (fun u c=>u * 256 + c) u∧l.foldl (fun u c=>u * 256 + c) u<256 ^ (k + l.length):=by
  intro l
  induction l with
  | nil=>intro u k _ h0 h1; exact ⟨h0,h1⟩
  | cons x l ih =>
    intro u k hb h0 h1;have hx:=hb x List.mem_cons_self
    have h2 : u * 256 + x<256 ^ (k + 1):=by rw [Int.pow_succ]; omega
    have:=ih (u * 256 + x) (k + 1) (fun y hy=>hb y (List.mem_cons_of_mem _ hy)) (by omega) h2
    rw [List.foldl_cons,List.length_cons,show k + (l.length + 1)=k + 1 + l.length by omega]
    exact this
theorem pow56 (i : Nat) (h : i<8) : (256 : Int) ^ i≤72057594037927936:=by
  have : i=0∨i=1∨i=2∨i=3∨i=4∨i=5∨i=6∨i=7:=by omega
  rcases this with rfl|rfl|rfl|rfl|rfl|rfl|rfl|rfl <;> decide
def num (l : List Int) : Int:=l.foldl (fun u c=>u * 256 + c) 0
theorem num_snoc (l : List Int) (x : Int) : num (l++[x])=num l * 256 + x:=by unfold num; rw [List.foldl_append]; rfl
theorem num_bd {l : List Int} (h : Bytes l) : 0≤num l∧num l<256 ^ l.length:=by
  have:=foldl_bd l 0 0 h (Int.le_refl _) (by decide)
  rw [Nat.zero_add] at this;exact this
def TnPost (w : World) (g : Nat) (B : Option Addr) (c : Nat) (b : List Int) (p n : Nat) (e : Ending) (w' : World) : Prop :=
  w.grownBy w' (some g)∧((p + n≤b.length∧TK w' g B c b (p + n)∧e=.returned (.int .u64 (num ((b.drop p).take n))))∨(b.length<p + n∧∃ pv : Int,e=.panicked [{ v:=.iface 70 (.agg #[.int .i64 pv]),recovered:=false }]))
set_option maxRecDepth 100000 in
theorem tk_number (w : World) (g : Nat) (B : Option Addr) (c : Nat) (b : List Int) (p n : Nat) (h : TK w g B c b p) (hby : Bytes b) (hb : b.length≤1000000) (hp : p≤b.length) (hn : n≤8) :
    Calls Tryd.prog 62 #[.pointer (some ⟨g,0,none⟩),.int .i64 (n : Int)] w fun e w'=>TnPost w g B c b p n e w':=by
  have BY:=Lib.hid (tk_bytes w g B c b p n h hb hp (by omega))
  have HBy:=Lib.hid hby;clear h hby;go_enter Tryd.func62,Tryd.ntmps62;go_wp2_with fail;refine BY.out.mono ?_;rintro e w1 ⟨hg,⟨hlt,hT,A',c',rfl,hrd⟩ | ⟨hlt,pv,rfl⟩⟩
  · have HG:=Lib.hid hg
    have HT:=Lib.hid hT;have HRD:=Lib.hid hrd
    have hlen : ((b.drop p).take n).length=n:=by rw [List.length_take,List.length_drop]; omega
    have hbs : Bytes ((b.drop p).take n):=(HBy.out.drop p).take n;clear hg hT hrd BY
    generalize hdl : (b.drop p).take n=l at *
    have HDL:=Lib.hid hdl;clear hdl;have HBL:=Lib.hid hbs;obtain rfl : l.length=n:=hlen;have l0 : (0 : Int)≤(l.length : Int):=Int.natCast_nonneg _
    have l8 : (l.length : Int)≤8:=by omega
    clear hbs;go_wp2_with fail
    go_loopg [5,12] l.length (fun k v5 v12 wr=>∃ i : Nat,i≤l.length∧k=l.length - i∧v12=.int .i64 (i : Int)∧v5=.int .u64 (num (l.take i))∧wr=w1)
    case atStart=>exact ⟨0,Nat.zero_le _,rfl,rfl,rfl,rfl⟩
    case round =>
      obtain ⟨i,hi,rfl,rfl,rfl,rfl⟩:=hrel;have i0 : (0 : Int)≤(i : Int):=Int.natCast_nonneg _
      by_cases hlt2 : i<l.length
      · have hd : decide (i<l.length)=true:=dt_ hlt2
        have i1 : (i : Int)<(l.length : Int):=by omega
        obtain ⟨ad,rfl,hx⟩:=Kd.at_int HRD.out (i : Int) (by omega) (by omega)
        rw [Int.toNat_natCast] at hx;have HS:=Lib.hid (take_snoc l i hlt2);have HU:=num_bd (HBL.out.take i);have HX:=HBL.out.at_ i hlt2
        generalize rd l (i : Int)=x at *
        rw [List.length_take,Nat.min_eq_left (by omega)] at HU
        generalize hu : num (l.take i)=u at *
        have HUE:=Lib.hid hu
        have u56 : u<72057594037927936:=by
          have:=pow56 i (by omega)
          omega
        have hor:=or_lo u x HU.1 u56 HX.1 HX.2;clear hu HU;go_wp2;go_roundg (l.length - (i + 1))
        case measure=>omega
        case rel=>exact ⟨i + 1,by omega,rfl,by go_num,by rw [HS.out,num_snoc,HUE.out],rfl⟩
      · have hd : decide (i<l.length)=false:=df_ hlt2
        obtain rfl : i=l.length:=by omega
        go_wp2;go_ret
        exact ⟨HG.out,.inl ⟨hlt,HT.out,by rw [HDL.out]; first|rfl|(rw [List.take_length]; rfl)⟩⟩
  · exact ⟨rfl,hg,.inr ⟨hlt,pv,rfl⟩⟩
end Go.Proofs.YtbmcbhpkefjhbaaDoor.Pac
namespace Go.Proofs.YtbmcbhpkefjhbaaDoor.Pac
open Go.RowKit YtbmcbhpkefjhbaaDoor YtbmcbhpkefjhbaaDoor.Mem YtbmcbhpkefjhbaaDoorW.PrintWords YtbmcbhpkefjhbaaDoorW.PrintLast YtbmcbhpkefjhbaaDoorW.PrintMore
theorem grown_below {w w' : World} (hb : Below w.heap.size w w') (row : Option Nat) : w.grownBy w' row:=⟨hb.os,hb.tape,hb.output,hb.size,fun i hi _=>hb.block i hi⟩
theorem grown_set_new {w w' : World} {row : Option Nat} (h : w.grownBy w' row) {p : Addr} (hp : w.heap.size≤p.block) (v : Value) : w.grownBy (w'.setCell p v) row :=
  ⟨h.os,h.tape,h.output,by rw [World.size_setCell]; exact h.size,fun k hk hne=>(Below.heap_setCell w' p v k (by omega)).trans (h.block k hk hne)⟩
theorem frozen_new (w : World) (xs : Array Value) (t : TypeId) (i : Nat) : (w.alloc (.cells xs t)).frozen? ⟨w.heap.size,i,none⟩=false:=by
  simp [go_sem]
structure OI (w : World) (h : Nat) (a : It) : Prop where
  has : HasIt w h a
  fz : ∀ i,w.frozen? ⟨h,i,none⟩=false
theorem OI.lt {w : World} {h : Nat} {a : It} (o : OI w h a) : h<w.heap.size:=wb_ w _ o.has.1
theorem OI.alloc (w : World) (a : It) : OI (w.alloc a.o) w.heap.size a:=⟨HasIt.alloc w a,fun i=>frozen_new w _ _ i⟩
theorem OI.grown {w w' : World} {h g : Nat} {a : It} (o : OI w h a) (hg : w.grownBy w' (some g)) (hne : h≠g) : OI w' h a where
  has:=⟨hg.cell o.has.1 (by intro e; injection e with e; exact hne e),hg.cell o.has.2.1 (by intro e; injection e with e; exact hne e),hg.cell o.has.2.2.1 (by intro e; injection e with e; exact hne e),hg.cell o.has.2.2.2 (by intro e; injection e with e; exact hne e)⟩
  fz:=fun i=>(hg.frozen_far ⟨h,i,none⟩ o.lt (by intro e; injection e with e; exact hne e)).trans (o.fz i)
theorem OI.below {w w' : World} {h : Nat} {a : It} (o : OI w h a) (hb : Below w.heap.size w w') : OI w' h a:=⟨o.has.below hb,fun i=>(hb.frozen o.lt).trans (o.fz i)⟩
theorem ne_off {h i j : Nat} (hij : i≠j) : (⟨h,i,none⟩ : Addr)≠⟨h,j,none⟩:=by intro e; injection e with _ e; exact hij e
theorem OI.setn {w : World} {h : Nat} {a : It} (o : OI w h a) (n : Int) : OI (w.setCell ⟨h,1,none⟩ (.int .i64 n)) h ⟨a.k,n,a.x,a.s⟩ where
  has:=⟨(World.cell?_setCell_other _ _ _ _ (ne_off (by decide))).trans o.has.1,World.cell?_setCell_same _ _ _ o.has.2.1,(World.cell?_setCell_other _ _ _ _ (ne_off (by decide))).trans o.has.2.2.1,(World.cell?_setCell_other _ _ _ _ (ne_off (by decide))).trans o.has.2.2.2⟩
  fz:=fun i=>by rw [World.frozen?_setCell]; exact o.fz i
theorem OI.setx {w : World} {h : Nat} {a : It} (o : OI w h a) (x : Nat) : OI (w.setCell ⟨h,2,none⟩ (.float .f64 x)) h ⟨a.k,a.n,x,a.s⟩ where
  has:=⟨(World.cell?_setCell_other _ _ _ _ (ne_off (by decide))).trans o.has.1,(World.cell?_setCell_other _ _ _ _ (ne_off (by decide))).trans o.has.2.1,World.cell?_setCell_same _ _ _ o.has.2.2.1,(World.cell?_setCell_other _ _ _ _ (ne_off (by decide))).trans o.has.2.2.2⟩
  fz:=fun i=>by rw [World.frozen?_setCell]; exact o.fz i
theorem OI.sets {w : World} {h : Nat} {a : It} (o : OI w h a) (s : ByteArray) : OI (w.setCell ⟨h,3,none⟩ (.string s)) h ⟨a.k,a.n,a.x,s⟩ where
  has:=⟨(World.cell?_setCell_other _ _ _ _ (ne_off (by decide))).trans o.has.1,(World.cell?_setCell_other _ _ _ _ (ne_off (by decide))).trans o.has.2.1,(World.cell?_setCell_other _ _ _ _ (ne_off (by decide))).trans o.has.2.2.1,World.cell?_setCell_same _ _ _ o.has.2.2.2⟩
  fz:=fun i=>by rw [World.frozen?_setCell]; exact o.fz i
theorem size_strOf (l : List Int) : (strOfNums l).size=l.length:=by
  unfold strOfNums
  simp [ByteArray.size]
theorem pow32 (i : Nat) (h : i≤4) : (256 : Int) ^ i≤4294967296:=by
  have : i=0∨i=1∨i=2∨i=3∨i=4:=by omega
  rcases this with rfl|rfl|rfl|rfl|rfl <;> decide
theorem nil_toList : (⟨#[]⟩ : ByteArray).toList=[]:=by kernel_rfl
theorem OI.other {w : World} {h : Nat} {a : It} (o : OI w h a) {j : Nat} (hne : j≠h) (i : Nat) (v : Value) : OI (w.setCell ⟨j,i,none⟩ v) h a where
  has:=⟨(World.cell?_setCell_other _ _ _ _ (by intro e; injection e with e; exact hne e)).trans o.has.1,(World.cell?_setCell_other _ _ _ _ (by intro e; injection e with e; exact hne e)).trans o.has.2.1,(World.cell?_setCell_other _ _ _ _ (by intro e; injection e with e; exact hne e)).trans o.has.2.2.1,(World.cell?_setCell_other _ _ _ _ (by intro e; injection e with e; exact hne e)).trans o.has.2.2.2⟩
  fz:=fun i=>by rw [World.frozen?_setCell]; exact o.fz i
theorem TK.other {w : World} {g : Nat} {B : Option Addr} {c : Nat} {b : List Int} {p : Nat} (t : TK w g B c b p) {h : Nat} (hne : h≠g) (hf : ∀ ad,B=some ad→0<b.length→ad.block≠h) (i : Nat) (v : Value) : TK (w.setCell ⟨h,i,none⟩ v) g B c b p where
  c0:=(World.cell?_setCell_other _ _ _ _ (by intro e; injection e with e; exact hne e)).trans t.c0
  c1:=(World.cell?_setCell_other _ _ _ _ (by intro e; injection e with e; exact hne e)).trans t.c1
  fz:=by rw [World.frozen?_setCell]; exact t.fz
  rd:=RdB_grown t.rd (grown_set _ _ _ _) hf
  far:=t.far
  cap:=t.cap
theorem RdB.lt {w : World} {B : Option Addr} {b : List Int} (h : RdB w B b) : ∀ ad,B=some ad→0<b.length→ad.block<w.heap.size:=by
  intro ad e hp;subst e
  obtain ⟨ad',e,hx⟩:=Kd.at_int h 0 (by omega) (by omega)
  injection e with e
  subst e;have:=wb_ w _ hx
  rwa [show (ad.add (0 : Int).toNat).block=ad.block by unfold Addr.add; split <;> rfl] at this
abbrev st4 (w : World) (h : Nat) (a : It) : World:=(((w.setCell ⟨h,0,none⟩ (.int .i64 a.k)).setCell ⟨h,1,none⟩ (.int .i64 a.n)).setCell ⟨h,2,none⟩ (.float .f64 a.x)).setCell ⟨h,3,none⟩ (.string a.s)
theorem OI.setk {w : World} {h : Nat} {a : It} (o : OI w h a) (n : Int) : OI (w.setCell ⟨h,0,none⟩ (.int .i64 n)) h ⟨n,a.n,a.x,a.s⟩ where
  has:=⟨World.cell?_setCell_same _ _ _ o.has.1,(World.cell?_setCell_other _ _ _ _ (ne_off (by decide))).trans o.has.2.1,(World.cell?_setCell_other _ _ _ _ (ne_off (by decide))).trans o.has.2.2.1,(World.cell?_setCell_other _ _ _ _ (ne_off (by decide))).trans o.has.2.2.2⟩
  fz:=fun i=>by rw [World.frozen?_setCell]; exact o.fz i
theorem OI.set4 {w : World} {h : Nat} {z : It} (o : OI w h z) (a : It) : OI (st4 w h a) h a:=(((o.setk a.k).setn a.n).setx a.x).sets a.s
theorem TK.set4 {w : World} {g : Nat} {B : Option Addr} {c : Nat} {b : List Int} {p : Nat} (t : TK w g B c b p) {h : Nat} (hne : h≠g) (hf : ∀ ad,B=some ad→0<b.length→ad.block≠h) (a : It) : TK (st4 w h a) g B c b p:=(((t.other hne hf _ _).other hne hf _ _).other hne hf _ _).other hne hf _ _
theorem grown_set4 {w w' : World} {row : Option Nat} (hg : w.grownBy w' row) {h : Nat} (hp : w.heap.size≤h) (a : It) : w.grownBy (st4 w' h a) row:=grown_set_new (grown_set_new (grown_set_new (grown_set_new hg hp _) hp _) hp _) hp _
def item1 (b : List Int) (p : Nat) (k : Int) : Option (It × Nat) :=
  if k=4 then
    if p + 8≤b.length∧Flt.val (num ((b.drop p).take 8)).toNat=(num ((b.drop p).take 8)).toNat then some (⟨4,0,(num ((b.drop p).take 8)).toNat,⟨#[]⟩⟩,p + 8) else none
  else if k=5 then
    if p + 1≤b.length∧p + 1 + (num ((b.drop p).take 1)).toNat≤b.length then some (⟨5,0,0,strOfNums ((b.drop (p + 1)).take (num ((b.drop p).take 1)).toNat)⟩,p + 1 + (num ((b.drop p).take 1)).toNat) else none
  else
    if p + (wid k).toNat≤b.length∧may ⟨k,num ((b.drop p).take (wid k).toNat),0,⟨#[]⟩⟩=true then some (⟨k,num ((b.drop p).take (wid k).toNat),0,⟨#[]⟩⟩,p + (wid k).toNat) else none
def TiPost (w : World) (g : Nat) (B : Option Addr) (c : Nat) (b : List Int) (p : Nat) (k : Int) (e : Ending) (w' : World) : Prop :=
  w.grownBy w' (some g)∧((∃ a q,item1 b p k=some (a,q)∧TK w' g B c b q∧e=.returned a.v)∨(item1 b p k=none∧∃ pv : Int,e=.panicked [{ v:=.iface 70 (.agg #[.int .i64 pv]),recovered:=false }]))
set_option maxRecDepth 100000 in
set_option maxHeartbeats 1000000 in
theorem tk_item (w : World) (g : Nat) (B : Option Addr) (c : Nat) (b : List Int) (p : Nat) (k : Int) (h : TK w g B c b p) (hby : Bytes b) (hb : b.length≤1000000) (hp : p≤b.length) (hk : 1≤k∧k≤5) :
    Calls Tryd.prog 40 #[.pointer (some ⟨g,0,none⟩),.int .i64 k] w fun e w'=>TiPost w g B c b p k e w':=by
  have hlt:=wb_ w _ h.c0
  simp only at hlt
  have hfar:=RdB.lt h.rd;have HT1:=Lib.hid ((h.below (ba_ (Below.refl _ _) (It.o ⟨0,0,0,⟨#[]⟩⟩))).below (ba_ (Below.refl _ _) (It.o ⟨k,0,0,⟨#[]⟩⟩)));have HG1:=Lib.hid (World.grownBy.trans (World.grownBy_alloc w (It.o ⟨0,0,0,⟨#[]⟩⟩) (some g)) (World.grownBy_alloc (w.alloc (It.o ⟨0,0,0,⟨#[]⟩⟩)) (It.o ⟨k,0,0,⟨#[]⟩⟩) (some g)));have HI1:=Lib.hid (OI.alloc (w.alloc (It.o ⟨0,0,0,⟨#[]⟩⟩)) ⟨k,0,0,⟨#[]⟩⟩);have HR1:=Lib.hid ((OI.alloc w ⟨0,0,0,⟨#[]⟩⟩).below (ba_ (Below.refl _ _) (It.o ⟨k,0,0,⟨#[]⟩⟩)))
  have hsz : (w.alloc (It.o ⟨0,0,0,⟨#[]⟩⟩)).heap.size=w.heap.size + 1:=by show (w.heap.push _).size=_; simp
  rw [hsz] at HI1;have HBy:=Lib.hid hby;have HFAR:=Lib.hid hfar
  have hsf : ∀ (a : Addr) (n : Nat) (w : World),(store a (.float .f64 n)).run Tryd.prog w=stored Tryd.prog w a (.float .f64 n) .plain:=fun a n w=>run_store _ w a _ _ rfl
  clear hsz hfar hby h
  have hcs : k=4∨k=5∨(k=1∨k=2∨k=3):=by omega
  rcases hcs with rfl|rfl|hk3
  · have hit : Hid (item1 b p 4=if p + 8≤b.length∧Flt.val (num ((b.drop p).take 8)).toNat=(num ((b.drop p).take 8)).toNat then some (⟨4,0,(num ((b.drop p).take 8)).toNat,⟨#[]⟩⟩,p + 8) else none):=Lib.hid rfl
    go_enter Tryd.func40,Tryd.ntmps40;go_wp2_with fail
    have NB:=Lib.hid (tk_number _ g B c b p 8 HT1.out HBy.out hb hp (by omega))
    generalize hW : (w.alloc (It.o ⟨0,0,0,⟨#[]⟩⟩)).alloc (It.o ⟨4,0,0,⟨#[]⟩⟩)=W1 at *
    clear hW HT1;refine NB.out.mono ?_;rintro e w2 ⟨hg,⟨hle,hT,rfl⟩ | ⟨hle,pv,rfl⟩⟩
    · have HT2:=Lib.hid hT
      have HG2:=Lib.hid (World.grownBy.trans HG1.out hg)
      have HI2:=Lib.hid (HI1.out.grown hg (by omega))
      have HR2:=Lib.hid (HR1.out.grown hg (by omega))
      have hu0 : 0≤num ((b.drop p).take 8):=(num_bd ((HBy.out.drop p).take 8)).1;clear hg hT NB HG1 HI1 HR1
      generalize num ((b.drop p).take 8)=u at *
      obtain ⟨x0,x1,x2,x3⟩:=HI2.out.has;have hfz:=HI2.out.fz
      by_cases hv : Flt.val u.toNat=u.toNat
      · have e1 : (((Flt.val u.toNat : Nat) : Int) != u)=false:=by rw [bne_eq_false_iff_eq,hv]; omega
        have HIT : Hid (item1 b p 4=some (⟨4,0,Flt.val u.toNat,⟨#[]⟩⟩,p + 8)):=Lib.hid (by rw [hit.out,if_pos ⟨hle,hv⟩,hv])
        have hmay : Hid (may ⟨4,0,Flt.val u.toNat,⟨#[]⟩⟩=true):=Lib.hid (by rw [may_4,nil_toList]; rfl)
        clear hv;go_wp2_with (first|(go_at_call 51; refine (Value_any _ _).mono ?_; rintro e w' ⟨rfl,rfl⟩));have HI3:=Lib.hid (HI2.out.setx (Flt.val u.toNat))
        have HR3:=Lib.hid (HR2.out.other (j:=w.heap.size + 1) (by omega) 2 (.float .f64 (Flt.val u.toNat)))
        have HT3:=Lib.hid (HT2.out.other (h:=w.heap.size + 1) (by omega) (fun ad e hp=>Nat.ne_of_lt (Nat.lt_succ_of_lt (HFAR.out ad e hp))) 2 (.float .f64 (Flt.val u.toNat)))
        have HG3:=Lib.hid (grown_set_new HG2.out (p:=⟨w.heap.size + 1,2,none⟩) (by simp only; omega) (.float .f64 (Flt.val u.toNat)))
        generalize w2.setCell ⟨w.heap.size + 1,2,none⟩ (.float .f64 (Flt.val u.toNat))=w3 at HI3 HR3 HT3 HG3 ⊢
        simp only at HI3
        clear x0 x1 x2 x3 hfz HI2 HR2 HT2 HG2;have CK:=Lib.hid (Check_any ⟨4,0,Flt.val u.toNat,⟨#[]⟩⟩ w3);rw [hmay.out] at CK;obtain ⟨x0,x1,x2,x3⟩:=HI3.out.has;go_wp2_with fail;refine CK.out.mono ?_;rintro e w4 ⟨rfl,hb4⟩;have HI4:=Lib.hid (HI3.out.below hb4);have HR4:=Lib.hid (HR3.out.below hb4);have HT4:=Lib.hid (HT3.out.below hb4);have HG4:=Lib.hid (World.grownBy.trans HG3.out (grown_below hb4 _));clear hb4 x0 x1 x2 x3 CK HI3 HR3 HT3 HG3;obtain ⟨x0,x1,x2,x3⟩:=HI4.out.has;obtain ⟨r0,r1,r2,r3⟩:=HR4.out.has;have hfr:=HR4.out.fz
        rw [show erOf true=0 from rfl]
        go_wp2;have HR5:=Lib.hid (HR4.out.set4 ⟨4,0,Flt.val u.toNat,⟨#[]⟩⟩)
        have HT5:=Lib.hid (HT4.out.set4 (h:=w.heap.size) (by omega) (fun ad e hp=>Nat.ne_of_lt (HFAR.out ad e hp)) ⟨4,0,Flt.val u.toNat,⟨#[]⟩⟩)
        have HG5:=Lib.hid (grown_set4 HG4.out (h:=w.heap.size) (Nat.le_refl _) ⟨4,0,Flt.val u.toNat,⟨#[]⟩⟩)
        generalize hw5 : st4 w4 w.heap.size ⟨4,0,Flt.val u.toNat,⟨#[]⟩⟩=w5 at HR5 HT5 HG5
        simp only [st4] at hw5
        rw [hw5];obtain ⟨y0,y1,y2,y3⟩:=HR5.out.has;clear hw5 x0 x1 x2 x3 r0 r1 r2 r3 hfr HI4 HR4 HT4 HG4;refine bodyPost_ret (v:=(⟨4,0,Flt.val u.toNat,⟨#[]⟩⟩ : It).v) ?_ rfl ⟨HG5.out,.inl ⟨_,_,HIT.out,HT5.out,rfl⟩⟩
        simp [results,Tryd.results40,go_sem,y0,y1,y2,y3]
      · have e1 : (((Flt.val u.toNat : Nat) : Int) != u)=true:=by rw [bne_iff_ne]; omega
        have HIT : Hid (item1 b p 4=none):=Lib.hid (by rw [hit.out,if_neg (fun h=>hv h.2)])
        have y1:=(HT2.out.other (h:=w.heap.size + 1) (by omega) (fun ad e hp=>Nat.ne_of_lt (Nat.lt_succ_of_lt (HFAR.out ad e hp))) 2 (.float .f64 (Flt.val u.toNat))).c1
        go_wp2_with (first|(go_at_call 51; refine (Value_any _ _).mono ?_; rintro e w' ⟨rfl,rfl⟩))
        exact ⟨rfl,grown_set_new HG2.out (by simp only; omega) _,.inr ⟨HIT.out,_,rfl⟩⟩
    · refine ⟨rfl,World.grownBy.trans HG1.out hg,.inr ⟨?_,pv,rfl⟩⟩
      rw [hit.out,if_neg (by omega)]
  · have hit : Hid (item1 b p 5=if p + 1≤b.length∧p + 1 + (num ((b.drop p).take 1)).toNat≤b.length then some (⟨5,0,0,strOfNums ((b.drop (p + 1)).take (num ((b.drop p).take 1)).toNat)⟩,p + 1 + (num ((b.drop p).take 1)).toNat) else none):=Lib.hid rfl
    go_enter Tryd.func40,Tryd.ntmps40;go_wp2_with fail
    have NB:=Lib.hid (tk_number _ g B c b p 1 HT1.out HBy.out hb hp (by omega))
    generalize hW : (w.alloc (It.o ⟨0,0,0,⟨#[]⟩⟩)).alloc (It.o ⟨5,0,0,⟨#[]⟩⟩)=W1 at *
    clear hW HT1;refine NB.out.mono ?_;rintro e w2 ⟨hg,⟨hle,hT,rfl⟩ | ⟨hle,pv,rfl⟩⟩
    · have HT2:=Lib.hid hT
      have HG2:=Lib.hid (World.grownBy.trans HG1.out hg)
      have HI2:=Lib.hid (HI1.out.grown hg (by omega))
      have HR2:=Lib.hid (HR1.out.grown hg (by omega))
      have hu:=num_bd ((HBy.out.drop p).take 1)
      rw [show ((b.drop p).take 1).length=1 by rw [List.length_take,List.length_drop]; omega,show (256 : Int) ^ 1=256 by decide] at hu
      clear hg hT NB HG1 HI1 HR1
      obtain ⟨m,hm⟩ : ∃ m : Nat,num ((b.drop p).take 1)=(m : Int):=⟨(num ((b.drop p).take 1)).toNat,by omega⟩
      rw [hm] at hit hu ⊢;rw [Int.toNat_natCast] at hit;clear hm;have m0 : (0 : Int)≤(m : Int):=hu.1
      have m1 : (m : Int)≤255:=by omega
      clear hu
      have BB:=Lib.hid (tk_bytes w2 g B c b (p + 1) m HT2.out hb hle (by omega))
      obtain ⟨x0,x1,x2,x3⟩:=HI2.out.has;have hfz:=HI2.out.fz;go_wp2_with fail;clear x0 x1 x2 x3 hfz;refine BB.out.mono ?_;rintro e w6 ⟨hg,⟨hle2,hT,A',c',rfl,hrd⟩ | ⟨hle2,pv,rfl⟩⟩
      · have HT6:=Lib.hid hT
        have HG6:=Lib.hid (World.grownBy.trans HG2.out hg)
        have HI6:=Lib.hid (HI2.out.grown hg (by omega))
        have HR6:=Lib.hid (HR2.out.grown hg (by omega))
        have HIT : Hid (item1 b p 5=some (⟨5,0,0,strOfNums ((b.drop (p + 1)).take m)⟩,p + 1 + m)):=Lib.hid (by rw [hit.out,if_pos ⟨hle,hle2⟩])
        have hlen : ((b.drop (p + 1)).take m).length=m:=by rw [List.length_take,List.length_drop]; omega
        have hcv:=conv_str c' hrd;rw [hlen] at hcv
        have hmay : Hid (may ⟨5,0,0,strOfNums ((b.drop (p + 1)).take m)⟩=true):=Lib.hid (by
          rw [may_5,size_strOf,hlen]
          simp
          omega)
        clear hg hT hrd BB HT2 HG2 HI2 HR2 hlen
        generalize strOfNums ((b.drop (p + 1)).take m)=sx at *
        obtain ⟨x0,x1,x2,x3⟩:=HI6.out.has;have hfz:=HI6.out.fz;go_wp2_with fail;have HI3:=Lib.hid (HI6.out.sets sx)
        have HR3:=Lib.hid (HR6.out.other (j:=w.heap.size + 1) (by omega) 3 (.string sx))
        have HT3:=Lib.hid (HT6.out.other (h:=w.heap.size + 1) (by omega) (fun ad e hp=>Nat.ne_of_lt (Nat.lt_succ_of_lt (HFAR.out ad e hp))) 3 (.string sx))
        have HG3:=Lib.hid (grown_set_new HG6.out (p:=⟨w.heap.size + 1,3,none⟩) (by simp only; omega) (.string sx))
        generalize w6.setCell ⟨w.heap.size + 1,3,none⟩ (.string sx)=w3 at HI3 HR3 HT3 HG3 ⊢
        simp only at HI3
        clear x0 x1 x2 x3 hfz HI6 HR6 HT6 HG6 hcv;have CK:=Lib.hid (Check_any ⟨5,0,0,sx⟩ w3);rw [hmay.out] at CK;obtain ⟨x0,x1,x2,x3⟩:=HI3.out.has;go_wp2_with fail;refine CK.out.mono ?_;rintro e w4 ⟨rfl,hb4⟩;have HI4:=Lib.hid (HI3.out.below hb4);have HR4:=Lib.hid (HR3.out.below hb4);have HT4:=Lib.hid (HT3.out.below hb4);have HG4:=Lib.hid (World.grownBy.trans HG3.out (grown_below hb4 _));clear hb4 x0 x1 x2 x3 CK HI3 HR3 HT3 HG3;obtain ⟨x0,x1,x2,x3⟩:=HI4.out.has;obtain ⟨r0,r1,r2,r3⟩:=HR4.out.has;have hfr:=HR4.out.fz
        rw [show erOf true=0 from rfl]
        go_wp2;have HR5:=Lib.hid (HR4.out.set4 ⟨5,0,0,sx⟩)
        have HT5:=Lib.hid (HT4.out.set4 (h:=w.heap.size) (by omega) (fun ad e hp=>Nat.ne_of_lt (HFAR.out ad e hp)) ⟨5,0,0,sx⟩)
        have HG5:=Lib.hid (grown_set4 HG4.out (h:=w.heap.size) (Nat.le_refl _) ⟨5,0,0,sx⟩)
        generalize hw5 : st4 w4 w.heap.size ⟨5,0,0,sx⟩=w5 at HR5 HT5 HG5
        simp only [st4] at hw5
        rw [hw5];obtain ⟨y0,y1,y2,y3⟩:=HR5.out.has;clear hw5 x0 x1 x2 x3 r0 r1 r2 r3 hfr HI4 HR4 HT4 HG4;refine bodyPost_ret (v:=(⟨5,0,0,sx⟩ : It).v) ?_ rfl ⟨HG5.out,.inl ⟨_,_,HIT.out,HT5.out,rfl⟩⟩
        simp [results,Tryd.results40,go_sem,y0,y1,y2,y3]
      · refine ⟨rfl,World.grownBy.trans HG2.out hg,.inr ⟨?_,pv,rfl⟩⟩
        rw [hit.out,if_neg (by omega)]
    · refine ⟨rfl,World.grownBy.trans HG1.out hg,.inr ⟨?_,pv,rfl⟩⟩
      rw [hit.out,if_neg (by omega)]
  · obtain ⟨m,hm8,hwm⟩ : ∃ m : Nat,m≤4∧wid k=(m : Int):=by
      rcases hk3 with rfl|rfl|rfl
      · exact ⟨1,by omega,rfl⟩
      · exact ⟨2,by omega,rfl⟩
      · exact ⟨4,by omega,rfl⟩
    have hit : Hid (item1 b p k=if p + m≤b.length∧may ⟨k,num ((b.drop p).take m),0,⟨#[]⟩⟩=true then some (⟨k,num ((b.drop p).take m),0,⟨#[]⟩⟩,p + m) else none):=Lib.hid (by
      unfold item1
      rw [if_neg (by omega),if_neg (by omega),hwm,Int.toNat_natCast])
    have g4 : (k == 4)=false:=by rw [beq_eq_false_iff_ne]; omega
    have g5 : (k == 5)=false:=by rw [beq_eq_false_iff_ne]; omega
    have WD:=Lib.hid (fun w=>width_any k w)
    rw [hwm] at WD;clear hk3 hwm;go_enter Tryd.func40,Tryd.ntmps40;go_wp2_with (first|(go_at_call 52; refine (WD.out _).mono ?_; rintro e w' ⟨rfl,rfl⟩))
    have NB:=Lib.hid (tk_number _ g B c b p m HT1.out HBy.out hb hp (by omega))
    generalize hW : (w.alloc (It.o ⟨0,0,0,⟨#[]⟩⟩)).alloc (It.o ⟨k,0,0,⟨#[]⟩⟩)=W1 at *
    clear hW HT1;refine NB.out.mono ?_;rintro e w2 ⟨hg,⟨hle,hT,rfl⟩ | ⟨hle,pv,rfl⟩⟩
    · have HT2:=Lib.hid hT
      have HG2:=Lib.hid (World.grownBy.trans HG1.out hg)
      have HI2:=Lib.hid (HI1.out.grown hg (by omega))
      have HR2:=Lib.hid (HR1.out.grown hg (by omega))
      have hu:=num_bd ((HBy.out.drop p).take m)
      rw [show ((b.drop p).take m).length=m by rw [List.length_take,List.length_drop]; omega] at hu
      have hp4:=pow32 m hm8;clear hg hT NB HG1 HI1 HR1
      generalize num ((b.drop p).take m)=u at *
      have u0 : 0≤u:=hu.1
      have u1 : u<4294967296:=by omega
      clear hu hp4;obtain ⟨x0,x1,x2,x3⟩:=HI2.out.has;have hfz:=HI2.out.fz;go_wp2_with fail;have HI3:=Lib.hid (HI2.out.setn u)
      have HR3:=Lib.hid (HR2.out.other (j:=w.heap.size + 1) (by omega) 1 (.int .i64 u))
      have HT3:=Lib.hid (HT2.out.other (h:=w.heap.size + 1) (by omega) (fun ad e hp=>Nat.ne_of_lt (Nat.lt_succ_of_lt (HFAR.out ad e hp))) 1 (.int .i64 u))
      have HG3:=Lib.hid (grown_set_new HG2.out (p:=⟨w.heap.size + 1,1,none⟩) (by simp only; omega) (.int .i64 u))
      generalize w2.setCell ⟨w.heap.size + 1,1,none⟩ (.int .i64 u)=w3 at HI3 HR3 HT3 HG3 ⊢
      simp only at HI3
      clear x0 x1 x2 x3 hfz HI2 HR2 HT2 HG2
      cases hmy : may ⟨k,u,0,⟨#[]⟩⟩ with
      | true =>
        have HIT : Hid (item1 b p k=some (⟨k,u,0,⟨#[]⟩⟩,p + m)):=Lib.hid (by rw [hit.out,if_pos ⟨hle,hmy⟩])
        have hmay:=Lib.hid hmy;clear hmy;have CK:=Lib.hid (Check_any ⟨k,u,0,⟨#[]⟩⟩ w3);rw [hmay.out] at CK;obtain ⟨x0,x1,x2,x3⟩:=HI3.out.has;go_wp2_with fail;refine CK.out.mono ?_;rintro e w4 ⟨rfl,hb4⟩;have HI4:=Lib.hid (HI3.out.below hb4);have HR4:=Lib.hid (HR3.out.below hb4);have HT4:=Lib.hid (HT3.out.below hb4);have HG4:=Lib.hid (World.grownBy.trans HG3.out (grown_below hb4 _));clear hb4 x0 x1 x2 x3 CK HI3 HR3 HT3 HG3;obtain ⟨x0,x1,x2,x3⟩:=HI4.out.has;obtain ⟨r0,r1,r2,r3⟩:=HR4.out.has;have hfr:=HR4.out.fz
        rw [show erOf true=0 from rfl]
        go_wp2;have HR5:=Lib.hid (HR4.out.set4 ⟨k,u,0,⟨#[]⟩⟩)
        have HT5:=Lib.hid (HT4.out.set4 (h:=w.heap.size) (by omega) (fun ad e hp=>Nat.ne_of_lt (HFAR.out ad e hp)) ⟨k,u,0,⟨#[]⟩⟩)
        have HG5:=Lib.hid (grown_set4 HG4.out (h:=w.heap.size) (Nat.le_refl _) ⟨k,u,0,⟨#[]⟩⟩)
        generalize hw5 : st4 w4 w.heap.size ⟨k,u,0,⟨#[]⟩⟩=w5 at HR5 HT5 HG5
        simp only [st4] at hw5
        rw [hw5];obtain ⟨y0,y1,y2,y3⟩:=HR5.out.has;clear hw5 x0 x1 x2 x3 r0 r1 r2 r3 hfr HI4 HR4 HT4 HG4;refine bodyPost_ret (v:=(⟨k,u,0,⟨#[]⟩⟩ : It).v) ?_ rfl ⟨HG5.out,.inl ⟨_,_,HIT.out,HT5.out,rfl⟩⟩
        simp [results,Tryd.results40,go_sem,y0,y1,y2,y3]
      | false =>
        have HIT : Hid (item1 b p k=none):=Lib.hid (by rw [hit.out,if_neg (by rw [hmy]; intro h; cases h.2)])
        have hmay:=Lib.hid hmy;clear hmy;have CK:=Lib.hid (Check_any ⟨k,u,0,⟨#[]⟩⟩ w3);rw [hmay.out] at CK;obtain ⟨x0,x1,x2,x3⟩:=HI3.out.has;go_wp2_with fail;refine CK.out.mono ?_;rintro e w4 ⟨rfl,hb4⟩;have HI4:=Lib.hid (HI3.out.below hb4);have HR4:=Lib.hid (HR3.out.below hb4);have HT4:=Lib.hid (HT3.out.below hb4);have HG4:=Lib.hid (World.grownBy.trans HG3.out (grown_below hb4 _));clear hb4 x0 x1 x2 x3 CK HI3 HR3 HT3 HG3;obtain ⟨x0,x1,x2,x3⟩:=HI4.out.has;obtain ⟨r0,r1,r2,r3⟩:=HR4.out.has;have hfr:=HR4.out.fz
        rw [show erOf false=1 from rfl]
        have t1:=HT4.out.c1;go_wp2;exact ⟨rfl,HG4.out,.inr ⟨HIT.out,_,rfl⟩⟩
    · refine ⟨rfl,World.grownBy.trans HG1.out hg,.inr ⟨?_,pv,rfl⟩⟩
      rw [hit.out,if_neg (by omega)]
end Go.Proofs.YtbmcbhpkefjhbaaDoor.Pac
namespace Go.Proofs.YtbmcbhpkefjhbaaDoor.Pac
open Go.RowKit YtbmcbhpkefjhbaaDoor YtbmcbhpkefjhbaaDoor.Mem YtbmcbhpkefjhbaaDoorW.PrintWords YtbmcbhpkefjhbaaDoorW.PrintLast YtbmcbhpkefjhbaaDoorW.PrintMore
theorem ta_nil (w : World) : (Instr.typeAssert Value.nilIface 20 70 true).run Tryd.prog w=.ok (.tuple #[.agg #[.int .i64 0],.bool false]) w:=by kernel_rfl
theorem ta_short (x : Int) (w : World) : (Instr.typeAssert (Value.iface 70 (.agg #[.int .i64 x])) 20 70 true).run Tryd.prog w=.ok (.tuple #[.agg #[.int .i64 x],.bool true]) w:=by kernel_rfl
set_option maxRecDepth 100000 in
theorem tk_idle (p q r : Addr) (w : World) :
    CallsD Tryd.prog 39 #[.pointer (some p),.pointer (some q),.pointer (some r)] .returning w fun e u' w'=>e=.returned (.tuple #[])∧u'=.returning∧Below w.heap.size w w':=by
  refine callsD_of_wpS Tryd.func39 rfl fun c₀ cs hu=>?_
  rw [show (#[Value.pointer (some p),.pointer (some q),.pointer (some r)]++Array.replicate (Tryd.f39.ntmps - (#[Value.pointer (some p),.pointer (some q),.pointer (some r)]).size) undef)=#[Value.pointer (some p),.pointer (some q),.pointer (some r),undef,undef,undef,undef,undef,undef,undef,undef] from rfl]
  apply wpS_seq;apply wpS_region
  simp [wpOpsS,go_sem,recoverD,hu,Exit.thenS,ta_nil]
  apply wpS_seq;apply wpS_region
  simp [wpOpsS,go_sem,recoverD,hu,Exit.thenS]
  refine wpS_cond (t:=false) (by simp [Act.eval]) ?_
  simp only [Bool.false_eq_true,if_false]
  refine wpS_of_wp (wp_skip ?_)
  cases c₀
  simp_all [bodyPostS,results,Tryd.results39]
  exact ba_ (Below.refl _ _) _
abbrev caught (w : World) (h : Nat) (x : Int) : World:=(((w.alloc (.cells #[.int .i64 x] 70)).setCell ⟨h,0,none⟩ (.slice none 0 0)).setCell ⟨h + 1,0,none⟩ (.int .i64 0)).setCell ⟨h + 2,0,none⟩ (.int .i64 4)
set_option maxRecDepth 100000 in
theorem tk_catch (h : Nat) (x : Int) (older : List PanicEntry) (w : World) (v4 v5 v6 : Value) (h4 : w.cell? ⟨h,0,none⟩=some v4) (h5 : w.cell? ⟨h + 1,0,none⟩=some v5) (h6 : w.cell? ⟨h + 2,0,none⟩=some v6) (f4 : w.frozen? ⟨h,0,none⟩=false) (f5 : w.frozen? ⟨h + 1,0,none⟩=false) (f6 : w.frozen? ⟨h + 2,0,none⟩=false) :
    CallsD Tryd.prog 39 #[.pointer (some ⟨h,0,none⟩),.pointer (some ⟨h + 1,0,none⟩),.pointer (some ⟨h + 2,0,none⟩)] (.panicking ({ v:=.iface 70 (.agg #[.int .i64 x]),recovered:=false } :: older)) w fun e u' w'=>e=.returned (.tuple #[])∧u'=.panicking ({ v:=.iface 70 (.agg #[.int .i64 x]),recovered:=true } :: older)∧w'=caught w h x:=by
  have hlt:=wb_ w _ h6
  simp only at hlt
  have c4 : (w.alloc (.cells #[.int .i64 x] 70)).cell? ⟨h,0,none⟩=some v4:=(World.cell?_alloc_lt _ _ _ (by simp only; omega)).trans h4
  have c5 : (w.alloc (.cells #[.int .i64 x] 70)).cell? ⟨h + 1,0,none⟩=some v5:=(World.cell?_alloc_lt _ _ _ (by simp only; omega)).trans h5
  have c6 : (w.alloc (.cells #[.int .i64 x] 70)).cell? ⟨h + 2,0,none⟩=some v6:=(World.cell?_alloc_lt _ _ _ (by simp only; omega)).trans h6
  have g4 : (w.alloc (.cells #[.int .i64 x] 70)).frozen? ⟨h,0,none⟩=false:=(World.frozen?_alloc_past _ _ _ (by omega)).trans f4
  have g5 : (w.alloc (.cells #[.int .i64 x] 70)).frozen? ⟨h + 1,0,none⟩=false:=(World.frozen?_alloc_past _ _ _ (by omega)).trans f5
  have g6 : (w.alloc (.cells #[.int .i64 x] 70)).frozen? ⟨h + 2,0,none⟩=false:=(World.frozen?_alloc_past _ _ _ (by omega)).trans f6
  clear h4 h5 h6 f4 f5 f6
  unfold caught
  refine callsD_of_wpS Tryd.func39 rfl fun c₀ cs hu=>?_
  rw [show (#[Value.pointer (some ⟨h,0,none⟩),.pointer (some ⟨h + 1,0,none⟩),.pointer (some ⟨h + 2,0,none⟩)]++Array.replicate (Tryd.f39.ntmps - (#[Value.pointer (some (⟨h,0,none⟩ : Addr)),.pointer (some ⟨h + 1,0,none⟩),.pointer (some ⟨h + 2,0,none⟩)]).size) undef)=#[Value.pointer (some ⟨h,0,none⟩),.pointer (some ⟨h + 1,0,none⟩),.pointer (some ⟨h + 2,0,none⟩),undef,undef,undef,undef,undef,undef,undef,undef] from rfl]
  apply wpS_seq;apply wpS_region
  simp [wpOpsS,go_sem,recoverD,hu,Exit.thenS,ta_short]
  generalize w.alloc (.cells #[.int .i64 x] 70)=wa at *
  apply wpS_seq;apply wpS_region
  simp [wpOpsS,go_sem,recoverD,hu,Exit.thenS]
  refine wpS_cond (t:=true) (by simp [Act.eval]) ?_
  simp only [if_true]
  apply wpS_region
  simp [wpOpsS,go_sem,c4,c5,c6,g4,g5,g6,bodyPostS,results,Tryd.results39]
end Go.Proofs.YtbmcbhpkefjhbaaDoor.Pac
