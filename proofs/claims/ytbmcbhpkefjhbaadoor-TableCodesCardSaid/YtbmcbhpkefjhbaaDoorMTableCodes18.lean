/- by wip/prune.py -/
import Derived.Deep.LoopGhost
import Derived.Laws.CopyOwn
import Derived.Outline
import Derived.Test.YtbmcbhpkefjhbaaDoorMTableCodes5
import Derived.Test.YtbmcbhpkefjhbaaDoorMTableCodes6
import Derived.Test.YtbmcbhpkefjhbaaDoorMTableCodes8
import Derived.Test.YtbmcbhpkefjhbaaDoorMTableCodes14
import Derived.Test.YtbmcbhpkefjhbaaDoorMTableCodes17
set_option linter.unusedSimpArgs false
set_option linter.unusedVariables false
namespace Go.Proofs.YtbmcbhpkefjhbaaDoor.P
open Go.RowKit YtbmcbhpkefjhbaaDoor YtbmcbhpkefjhbaaDoor.Mem YtbmcbhpkefjhbaaDoorW.PrintWords YtbmcbhpkefjhbaaDoorW.PrintLast YtbmcbhpkefjhbaaDoorW.PrintMore
theorem and32 (x : Nat) (h : x<4294967296) : Go.bits .and .u64 (x : Int) 4294967295=(x : Int):=by
  rw [Flt.asV x (by omega),show (4294967295 : Int)=((0xFFFFFFFF#64 : BitVec 64).toNat : Int) from rfl,Flt.and64]
  congr 1
  rw [BitVec.toNat_and]
  rw [show (0xFFFFFFFF#64 : BitVec 64).toNat=2 ^ 32 - 1 from rfl,Nat.and_two_pow_sub_one_eq_mod]
  simp only [BitVec.toNat_ofNat]
  omega
set_option maxRecDepth 100000 in
theorem Mul64_any (x y : Nat) (hx : x≤1000) (hy : y≤1000) (w : World) : Calls Tryd.prog 76 #[.int .u64 (x : Int),.int .u64 (y : Int)] w fun e w'=>e=.returned (.tuple #[.int .u64 0,.int .u64 ((x * y : Nat) : Int)])∧w=w':=by
  have a1:=and32 x (by omega)
  have a2:=and32 y (by omega)
  have a0 : Go.bits .and .u64 0 4294967295=0:=and32 0 (by omega)
  have hz : x * y≤1000000:=Nat.le_trans (Nat.mul_le_mul hx hy) (by decide)
  have s1 : (x : Int) / 4294967296=0:=by omega
  have s2 : (y : Int) / 4294967296=0:=by omega
  obtain ⟨z,hzz⟩ : ∃ z : Nat,z=x * y:=⟨_,rfl⟩
  have hm : (x : Int) * (y : Int)=(z : Int):=by rw [hzz]; exact (Int.natCast_mul x y).symm
  rw [← hzz] at hz ⊢
  have s3 : (z : Int) / 4294967296=0:=by omega
  have s4 : (z : Int) % 18446744073709551616=z:=by omega
  clear hzz;go_enter Tryd.func76,Tryd.ntmps76;go_wp2;go_ret2;exact ⟨rfl,rfl⟩
set_option maxRecDepth 100000 in
theorem Mul_any (x y : Nat) (hx : x≤1000) (hy : y≤1000) (w : World) : Calls Tryd.prog 64 #[.int .u64 (x : Int),.int .u64 (y : Int)] w fun e w'=>e=.returned (.tuple #[.int .u64 0,.int .u64 ((x * y : Nat) : Int)])∧w=w':=by
  have M:=Lib.hid (fun w=>Mul64_any x y hx hy w)
  generalize ((x * y : Nat) : Int)=z at M ⊢
  go_enter Tryd.func64,Tryd.ntmps64;go_wp2_with (first|(go_at_call 76; refine (M.out _).mono ?_; rintro e w' ⟨rfl,rfl⟩));go_ret2;exact ⟨rfl,rfl⟩
def reps (m : Nat) (l : List Int) : List Int:=(List.replicate m l).flatten
theorem reps_len (m : Nat) (l : List Int) : (reps m l).length=m * l.length:=by
  unfold reps
  rw [List.length_flatten,List.map_replicate,List.sum_replicate_nat]
theorem reps_add (a b : Nat) (l : List Int) : reps (a + b) l=reps a l++reps b l:=by
  unfold reps
  rw [← List.replicate_append_replicate,List.flatten_append]
theorem reps_grow (m q : Nat) (l : List Int) (hq : q≤m) (r : Nat) (hr : r≤(m - q) * l.length) : (reps m l).take (q * l.length + r)=(reps m l).take (q * l.length)++(reps m l).take r:=by
  have e1 : reps m l=reps q l++reps (m - q) l:=by rw [← reps_add]; congr 1; omega
  have e2 : reps m l=reps (m - q) l++reps q l:=by rw [← reps_add]; congr 1; omega
  have h1 : (reps m l).take (q * l.length)=reps q l:=by
    rw [e1,← reps_len q l,List.take_left]
  have h2 : (reps m l).take r=(reps (m - q) l).take r:=by
    rw [e2,List.take_append_of_le_length (by rw [reps_len]; exact hr)]
  rw [h1,h2,e1,← reps_len q l,List.take_length_add_append]
theorem splice_take (L : List Value) (n : Nat) (cs : List Value) (hn : n≤L.length) : (splice L n cs).take (n + cs.length)=L.take n++cs:=by
  have h1 : (L.take n).length=n:=by rw [List.length_take]; omega
  unfold splice
  rw [← List.append_assoc]
  rw [List.take_append_of_le_length (by rw [List.length_append,h1]; omega),List.take_of_length_le (by rw [List.length_append,h1]; omega)]
theorem nums_take (k : IntKind) (l : List Int) (n : Nat) : (nums k l).take n=nums k (l.take n):=by unfold nums; rw [List.map_take]
theorem add_block0 (g j : Nat) : (⟨g,0,none⟩ : Addr).add j=⟨g,j,none⟩:=by unfold Addr.add; split <;> simp_all
theorem cells_src {W : World} {g : Nat} {full : List Value} {t : TypeId} (h : W.heap[g]?=some (.cells full.toArray t (0,0))) {n : Nat} {cs : List Value} (hc : full.take n=cs) (j : Nat) (v : Value) (hv : cs[j]?=some v) : W.cell? ((⟨g,0,none⟩ : Addr).add j)=some v:=by
  have h2 : full[j]?=some v:=by
    have:=hv;rw [← hc] at this;have hj:=(List.getElem?_eq_some_iff.1 this).1;rw [List.length_take] at hj
    rw [List.getElem?_take_of_lt (by omega)] at this
    exact this
  rw [add_block0]
  exact (bc_ h j).trans (by simpa using h2)
theorem copy_run {P : Program} {w w0 : World} {B : Nat} (dT sT ty elem : TypeId) (hu : P.underlying dT=some (.slice elem)) (hsz : (P.info? elem).map (·.size)=some 1)
    (dp sp : Option Addr) (dLen dCap sLen sCap : Nat) (g off : Nat) (cur : List Value) (t : TypeId) (hg : w.heap[g]?=some (.cells cur.toArray t (0,0))) (cs : List Value) (hn : cs.length=Nat.min sLen dLen)
    (hpos : 0<cs.length→dp=some ⟨g,off,none⟩∧∃ ad,sp=some ad∧∀ j v,cs[j]?=some v→w.cell? (ad.add j)=some v)
    (hfit : off + cs.length≤cur.length) (h1 : ∀ v ∈ cs,v.oneCell'=true) (hb : Below B w0 w) (hBg : B≤g) :
    ∃ w',(Builtin.copy_ #[dT,sT] ty #[.slice dp dLen dCap,.slice sp sLen sCap]).run P w=.ok (goInt cs.length) w'∧w'.heap[g]?=some (.cells (splice cur off cs).toArray t (0,0))∧Below B w0 w':=by
  by_cases h0 : cs.length=0
  · obtain rfl : cs=[]:=List.eq_nil_of_length_eq_zero h0
    exact ⟨w,run_copy_none (P:=P) w dT sT ty elem dp sp dLen dCap sLen sCap hu hsz (by simpa using hn.symm),by simpa [splice] using hg,hb⟩
  · obtain ⟨rfl,ad,rfl,hsrc⟩:=hpos (by omega)
    exact ⟨_,run_copy_row (P:=P) w dT sT ty elem g off dLen dCap ad sLen sCap cur.toArray t cs hu hsz hg hn hsrc (by simpa using hfit) h1,by simpa [splice] using setRow_heap w g _ _ t _ hg,below_setRow hb hBg _⟩
theorem slice_lo (W : World) (g n cap i : Nat) (hi : i≤n) (hc : i<cap) : (Instr.slice 37 (.slice (some ⟨g,0,none⟩) n cap) (some (.int .i64 (i : Int))) none none).run Tryd.prog W=.ok (.slice (some ⟨g,i,none⟩) (n - i) (cap - i)) W:=by
  obtain ⟨i0,hi0,_,hsz,_⟩:=info_parts Dsg.info64
  have hel : Tryd.prog.elem 37=3:=by simp [Program.elem,Tryd.underlying37]
  have hu : Tryd.prog.underlying 37=some (.slice (Tryd.prog.elem 37)):=by rw [hel]; exact Tryd.underlying37
  rw [run_slice_l W 37 (some ⟨g,0,none⟩) n cap hu .i64 (i : Int) (Int.natCast_nonneg _) (by omega),hel]
  simp [sizeOf,typeInfo,hi0,hsz,sliced,Result.andThen,add_block0,show cap≠i by omega]
theorem slice_hi (W : World) (A : Option Addr) (n cap i : Nat) (hi : i≤cap) : (Instr.slice 37 (.slice A n cap) none (some (.int .i64 (i : Int))) none).run Tryd.prog W=.ok (.slice A i cap) W:=by
  obtain ⟨i0,hi0,_,hsz,_⟩:=info_parts Dsg.info64
  have hel : Tryd.prog.elem 37=3:=by simp [Program.elem,Tryd.underlying37]
  have hu : Tryd.prog.underlying 37=some (.slice (Tryd.prog.elem 37)):=by rw [hel]; exact Tryd.underlying37
  have ha : (A.map fun x=>x.add 0)=A:=by cases A <;> simp [Addr.add]
  rw [run_slice_h W 37 A n cap hu .i64 (i : Int) (Int.natCast_nonneg _) (by omega),hel]
  simp [sizeOf,typeInfo,hi0,hsz,sliced,Result.andThen,ha]
def Rep9.T : Bool × List (List Nat × List Nat):=(true,[([],[]),([],[]),([],[]),([1,2],[1,2]),([],[]),([],[]),([4,5],[4,5]),([3,6],[3,6]),([0,7],[0,7]),([8,7,0,1,2,3,4,5,6,7,8],[0,2,5,8])])
def Rep9.B : List Nat:=[0,0,0,6,0,0,48,126,255,511]
theorem Rep9.tab : rtab .any (opsOf Tryd.f41 9)=Rep9.T:=by kernel_rfl
theorem Rep9.bits : waitsOk Rep9.T.2 Rep9.B=true:=by kernel_rfl
set_option maxRecDepth 100000 in
set_option maxHeartbeats 1000000 in
theorem Repeat_any (A : Option Addr) (c : Nat) (l : List Int) (m : Nat) (w : World) (hr : Kd.C (Kd.int .i64) w A l.length l) (hl : l.length≤1000) (hm : m≤1000) :
    Calls Tryd.prog 41 #[.slice A l.length c,.int .i64 (m : Int)] w fun e w'=>∃ v,e=.returned v∧Kd.R (Kd.int .i64) 3 w' w.heap.size (fun _=>True) v (reps m l)∧Below w.heap.size w w':=by
  have HB:=Lib.hid (Below.refl w.heap.size w);have HR:=Lib.hid hr;clear hr
  have hz : l.length * m≤1000000:=Nat.le_trans (Nat.mul_le_mul hl hm) (by decide)
  have M:=fun w=>Mul_any l.length m hl hm w
  obtain ⟨z,hzz⟩ : ∃ z : Nat,z=l.length * m:=⟨_,rfl⟩
  simp only [← hzz] at M
  rw [← hzz] at hz;have HM:=Lib.hid M;have HZ:=Lib.hid hzz;clear hzz M
  have f0 : decide ((m : Int)<0)=false:=df_ (by omega)
  have f1 : decide ((9223372036854775807 : Int)<(z : Int))=false:=df_ (by omega)
  have z0 : (0 : Int)≤(z : Int):=Int.natCast_nonneg _;go_enter Tryd.func41,Tryd.ntmps41
  go_wp2_with (first|(go_at_call 64; refine (HM.out _).mono ?_; rintro e w' ⟨rfl,rfl⟩)|((with_reducible refine gate_dst (N:=30) rfl ?_); refine Kd.R_make (Kd.int .i64) (w0:=w) w.heap.size 3 rfl rfl 37 (.tmp 29) (.tmp 29) rfl ((z : Int)) rfl rfl Tryd.underlying37 (.int .i64 0) 8 Dsg.info64 rfl (by decide) (by decide) 0 (okp:=fun _=>True) (ok:=fun _=>True) ?aZ (fun _ h=>h) trivial z0 ?aL (hb0_ HB.out) (bz_ (hb0_ HB.out)) ?_; (case aZ=>rfl); (case aL=>omega); intro v30 w30 ho hb hg hat; have HG30:=Lib.hid hg; have HAT30:=Lib.hid hat; clear hg hat; have HO30:=Lib.hid ho; have HB:=Lib.hid hb; clear ho hb))
  obtain ⟨b,hob,hbw⟩:=HAT30.out;have hown:=Kd.own_of_R HO30.out
  have hlz : (List.replicate (z : Int).toNat (0 : Int)).length=z:=by rw [List.length_replicate,Int.toNat_natCast]
  rw [hlz] at hown;obtain ⟨_,hrow⟩:=hown
  rcases hrow with ⟨hn,_⟩ | ⟨g,cap,cur,hv,hb,hh,hnc,hcm,hcs,_⟩
  · rw [hn] at hob; simp [Value.ownBlock] at hob
  subst hv
  have hcz : cur.size=cap:=by omega
  clear HAT30 HO30 HG30 hob hbw hlz hcs
  obtain ⟨full,hfull⟩ : ∃ full : List Value,cur=full.toArray:=⟨cur.toList,by simp⟩
  subst hfull
  have hfl : full.length=cap:=by simpa using hcz
  have HH:=Lib.hid hh;have HFL:=Lib.hid hfl;clear hcz hh hfl
  obtain ⟨cs,hcs⟩ : ∃ cs,cs=nums .i64 (l.take (min l.length z)):=⟨_,rfl⟩
  have hcl : cs.length=min l.length z:=by rw [hcs]; simp [nums]
  have hsrc : 0<cs.length→(some (⟨g,0,none⟩ : Addr))=some ⟨g,0,none⟩∧∃ ad,A=some ad∧∀ j v,cs[j]?=some v→w30.cell? (ad.add j)=some v:=by
    intro hp;refine ⟨rfl,?_⟩
    obtain ⟨ad,hA,_⟩:=Kd.at_int (Kd.C_below HR.out HB.out) (0 : Int) (by omega) (by omega)
    refine ⟨ad,hA,fun j v hj=>?_⟩
    have hjl:=(List.getElem?_eq_some_iff.1 hj).1
    obtain ⟨ad',hA',hc'⟩:=Kd.at_int (Kd.C_below HR.out HB.out) (j : Int) (by omega) (by omega)
    rw [hA] at hA'
    injection hA' with hA'
    subst hA';rw [Int.toNat_natCast] at hc';rw [hc',← hj,hcs]
    have hjm : j<min l.length z:=by omega
    simp [nums,rd,List.getElem?_take_of_lt hjm,show j<l.length by omega]
  have h1c : ∀ v ∈ cs,v.oneCell'=true:=by
    intro v hv;rw [hcs] at hv
    simp only [nums,List.mem_map] at hv
    obtain ⟨q,_,rfl⟩:=hv;rfl
  have HCS:=Lib.hid hcs;have HCL:=Lib.hid hcl;clear hcs hcl
  obtain ⟨w33,hrun,HH33',hb33⟩:=copy_run (P:=Tryd.prog) 37 37 3 3 Tryd.underlying37 (by kernel_rfl) (some ⟨g,0,none⟩) A z cap l.length c g 0 full 3 HH.out cs (by rw [HCL.out]) hsrc (by rw [HCL.out,HFL.out]; omega) h1c HB.out hb
  have HH33:=Lib.hid HH33';have HB33:=Lib.hid hb33;clear HH33' hb33;go_wp2;clear hrun
  have HF33 : Hid ((splice full 0 cs).length=cap):=Lib.hid (by rw [length_splice _ _ _ (by rw [HCL.out,HFL.out]; omega)]; exact HFL.out)
  have HP33 : Hid ((splice full 0 cs).take cs.length=nums .i64 ((reps m l).take cs.length)):=Lib.hid (by
    have h:=splice_take full 0 cs (Nat.zero_le _);rw [Nat.zero_add] at h;rw [h,List.take_zero,List.nil_append,HCL.out];rw [HCS.out]
    congr 1
    rcases Nat.eq_zero_or_pos m with h0|hp
    · have : z=0:=by have:=HZ.out; rw [h0,Nat.mul_zero] at this; exact this
      rw [this,Nat.min_zero,List.take_zero,List.take_zero]
    · have e : reps m l=l++reps (m - 1) l:=by
        have:=reps_add 1 (m - 1) l
        rw [show 1 + (m - 1)=m by omega] at this
        rw [this]
        simp [reps]
      rw [e,List.take_append_of_le_length (Nat.min_le_left _ _)])
  have HQ33 : Hid (cs.length≤z∧∃ q,cs.length=q * l.length∧q≤m∧(0<z→0<q)):=Lib.hid (by
    rw [HCL.out];refine ⟨Nat.min_le_right _ _,?_⟩;have hz':=HZ.out
    rcases Nat.eq_zero_or_pos m with h0|hp
    · rw [h0,Nat.mul_zero] at hz'
      exact ⟨0,by rw [hz']; omega,Nat.zero_le _,fun h=>by omega⟩
    · refine ⟨1,?_,hp,fun _=>by decide⟩
      have : l.length≤z:=by rw [hz']; exact Nat.le_mul_of_pos_right _ hp
      omega)
  clear HCL HCS hsrc h1c HH HFL
  generalize splice full 0 cs=full1 at HH33 HF33 HP33
  generalize cs.length=n1 at HP33 HQ33 ⊢
  go_loopg [8] (z - n1) (fun k v8 wr=>∃ (i : Nat) (full : List Value),k=z - i∧v8=.int .i64 (i : Int)∧Hid (i≤z∧∃ q,i=q * l.length∧q≤m∧(0<z→0<q))∧Hid (wr.heap[g]?=some (.cells full.toArray 3 (0,0)))∧Hid (full.length=cap)∧Hid (full.take i=nums .i64 ((reps m l).take i))∧Hid (Below w.heap.size w wr))
  case atStart=>exact ⟨n1,full1,rfl,rfl,HQ33,HH33,HF33,HP33,HB33⟩
  case round =>
    clear HQ33 HH33 HF33 HP33 HB33 HB;obtain ⟨i,full,rfl,rfl,HQ,HH,HF,HP,HB⟩:=hrel;have i0 : (0 : Int)≤(i : Int):=Int.natCast_nonneg _
    by_cases hlt : i<z
    · have hd : decide (i<z)=true:=dt_ hlt
      have hd' : decide ((i : Int)<(z : Int))=true:=dt_ (by omega)
      have hqz:=HQ.out
      have hi0 : 0<i:=by
        obtain ⟨_,q,hq1,hq2,hq3⟩:=hqz
        have hq:=hq3 (by omega)
        rcases Nat.eq_zero_or_pos l.length with h0|hp
        · have:=HZ.out; rw [h0,Nat.zero_mul] at this; omega
        · rw [hq1]; exact Nat.mul_pos hq hp
      have hs1:=fun W=>slice_lo W g z cap i (by omega) (by omega)
      have hs2:=fun W=>slice_hi W (some ⟨g,0,none⟩) z cap i (by omega)
      obtain ⟨cs,hcs⟩ : ∃ cs,cs=nums .i64 ((reps m l).take (min i (z - i))):=⟨_,rfl⟩
      have hrl : (reps m l).length=z:=by rw [reps_len,HZ.out,Nat.mul_comm]
      have hcl : cs.length=min i (z - i):=by rw [hcs]; simp [nums,hrl]
      have hct : full.take cs.length=cs:=by
        rw [hcl,hcs,← nums_take];have:=HP.out
        have e : full.take (min i (z - i))=(full.take i).take (min i (z - i)):=by rw [List.take_take,Nat.min_eq_left (Nat.min_le_left _ _)]
        rw [e];rw [this,nums_take,nums_take,List.take_take,Nat.min_eq_left (Nat.min_le_left _ _)]
      have h1c : ∀ v ∈ cs,v.oneCell'=true:=by
        intro v hv;rw [hcs] at hv
        simp only [nums,List.mem_map] at hv
        obtain ⟨q,_,rfl⟩:=hv;rfl
      have hcl2 : cs.length≤z - i∧0<cs.length:=by rw [hcl]; omega
      have HS0:=Lib.hid (fun (wx : World) (h : wx.heap[g]?=some (.cells full.toArray 3 (0,0))) (hbx : Below w.heap.size w wx)=>copy_run (P:=Tryd.prog) 37 37 3 3 Tryd.underlying37 (by kernel_rfl) (some ⟨g,i,none⟩) (some ⟨g,0,none⟩) (z - i) (cap - i) i cap g i full 3 h cs (by rw [hcl]) (fun _=>⟨rfl,_,rfl,cells_src h hct⟩) (by rw [HF.out]; omega) h1c hbx hb)
      have HCT:=Lib.hid hct;have HCSS:=Lib.hid hcs;have HCL:=Lib.hid hcl;have HRL:=Lib.hid hrl
      have hwr : wrap64 ((i : Int) + (cs.length : Int))=((i + cs.length : Nat) : Int):=by unfold wrap64; omega
      have HCL2:=Lib.hid hcl2;clear hct hcs hcl hrl h1c hcl2 hqz;go_wp2;have HBo:=Lib.hid (be_ (Below.refl wr.heap.size wr));have HBp:=Lib.hid (bp_ HB.out HBo.out);have HHp : Hid (wr.drew.heap[g]?=some (.cells full.toArray 3 (0,0))):=Lib.hid HH.out;clear HBo HB HH
      refine start_ (n:=10) (S:=fun _=>True) (ds:=[]) #[false,false,false,false,false,false,false,false,false,false] (by kernel_rfl) rfl rfl (trivial) (fun hHeld=>?_)
      refine with_tabW Rep9.tab Rep9.bits (fun HT_ HW_=>?_)
      generalize wr.drew=wD at HBp HHp hHeld ⊢; obtain ⟨w5,hrun,hh5,hb5⟩:=HS0.out wD HHp.out HBp.out; have HH5:=Lib.hid hh5; have HB5:=Lib.hid hb5; clear hh5 hb5
      refine pu_ (i:=0) (N:=(some 38)) (v:=?_) (a':=?_) #[true,false,false,false,false,false,false,false,false,false] rfl rfl HT_.out (by kernel_rfl) (fun _ _ _ h=>h) (by rfl) ?_ ?_ ?_;rotate_left;(intro w';go_simp;with_reducible rfl);rotate_left;(simp only [Act.put,u1_,u2_,u3_,i64_w,i32_w];rfl)
      refine pu_ (i:=1) (N:=(some 39)) (v:=?_) (a':=?_) #[true,true,false,false,false,false,false,false,false,false] rfl rfl HT_.out (by kernel_rfl) (fun _ _ _ h=>h) (by rfl) ?_ ?_ ?_;rotate_left;(intro w';go_simp;with_reducible rfl);rotate_left;(simp only [Act.put,u1_,u2_,u3_,i64_w,i32_w];rfl)
      refine pu_ (i:=2) (N:=(some 40)) (v:=?_) (a':=?_) #[true,true,true,false,false,false,false,false,false,false] rfl rfl HT_.out (by kernel_rfl) (fun _ _ _ h=>h) (by rfl) ?_ ?_ ?_;rotate_left;(intro w';go_simp;with_reducible rfl);rotate_left;(simp only [Act.put,u1_,u2_,u3_,i64_w,i32_w];rfl)
      refine pu_ (i:=3) (N:=(some 41)) (v:=?_) (a':=?_) #[true,true,true,true,false,false,false,false,false,false] rfl rfl HT_.out (by kernel_rfl) (fun _ _ _ h=>h) (by rfl) ?_ ?_ ?_;rotate_left;(intro w';go_simp;with_reducible rfl);rotate_left;(simp only [Act.put,u1_,u2_,u3_,i64_w,i32_w];rfl)
      refine pu_ (i:=4) (N:=(some 42)) (v:=?_) (a':=?_) #[true,true,true,true,true,false,false,false,false,false] rfl rfl HT_.out (by kernel_rfl) (fun _ _ _ h=>h) (by rfl) ?_ ?_ ?_;rotate_left;(intro w';go_simp;with_reducible rfl);rotate_left;(simp only [Act.put,u1_,u2_,u3_,i64_w,i32_w];rfl)
      refine pu_ (i:=5) (N:=(some 43)) (v:=?_) (a':=?_) #[true,true,true,true,true,true,false,false,false,false] rfl rfl HT_.out (by kernel_rfl) (fun _ _ _ h=>h) (by rfl) ?_ ?_ ?_;rotate_left;(intro w';go_simp;with_reducible rfl);rotate_left;(simp only [Act.put,u1_,u2_,u3_,i64_w,i32_w];rfl)
      refine pu_ (i:=6) (N:=(some 44)) (v:=?_) (a':=?_) #[true,true,true,true,true,true,true,false,false,false] rfl rfl HT_.out (by kernel_rfl) (fun _ _ _ h=>h) (by rfl) ?_ ?_ ?_;rotate_left;(intro w';go_simp;with_reducible rfl);rotate_left;(simp only [Act.put,u1_,u2_,u3_,i64_w,i32_w];rfl)
      refine one_ (i:=7) (N:=(some 45)) #[true,true,true,true,true,true,true,true,false,false] rfl rfl (one_of HT_.out (by kernel_rfl)) (by decide) (fun K hK=>?_)
      refine value_ (w1:=?_) (v:=?_) (by rfl) rfl ?_ ?_
      rotate_left 2
      · go_simp
        constructor
        · rfl
        · rfl
      refine hK.out _ _ (trivial) (fun hHeld=>?_)
      clear hK K
      refine norm_ (a':=?_) ?_ ?_;rotate_left;(show Act.put _ (some 45) _=_;simp only [Act.put,u1_,u2_,u3_,i64_w,i32_w];rfl)
      clear hrun
      refine pu_ (i:=8) (N:=(some 46)) (v:=?_) (a':=?_) #[true,true,true,true,true,true,true,true,true,false] rfl rfl HT_.out (by kernel_rfl) (fun _ _ _ h=>h) (by rfl) ?_ ?_ ?_;rotate_left;(intro w';go_simp;with_reducible rfl);rotate_left;(simp only [Act.put,u1_,u2_,u3_,i64_w,i32_w];rfl)
      refine pu_ (i:=9) (N:=(some 8)) (v:=?_) (a':=?_) #[true,true,true,true,true,true,true,true,true,true] rfl rfl HT_.out (by kernel_rfl) (fun _ _ _ h=>h) (by rfl) ?_ ?_ ?_;rotate_left;(intro w';go_simp;with_reducible rfl);rotate_left;(simp only [Act.put,u1_,u2_,u3_,i64_w,i32_w];rfl)
      refine done_ (done_of HT_.out (by kernel_rfl)) ?_;go_wp2;go_roundg (z - (i + cs.length))
      case measure=>have:=HCL2.out; omega
      case rel =>
        refine ⟨i + cs.length,splice full i cs,rfl,by go_num,Lib.hid ?_,HH5,Lib.hid ?_,Lib.hid ?_,HB5⟩
        · obtain ⟨_,q,hq1,hq2,hq3⟩:=HQ.out
          have h2:=HCL2.out;have h3:=HCL.out
          refine ⟨by omega,?_⟩
          rcases Nat.le_total (i + i) z with h|h
          · refine ⟨q + q,by rw [Nat.add_mul,← hq1]; omega,?_,fun hz0=>by have:=hq3 hz0; omega⟩
            have hz':=HZ.out
            rcases Nat.lt_or_ge m (q + q) with hlt2|hge
            · exfalso
              have hlp : 0<l.length:=by
                rcases Nat.eq_zero_or_pos l.length with h0|hp
                · rw [h0,Nat.zero_mul] at hz'; omega
                · exact hp
              have h5:=Nat.mul_lt_mul_of_pos_left hlt2 hlp;rw [← hz',Nat.mul_comm,Nat.add_mul,← hq1] at h5;omega
            · exact hge
          · refine ⟨m,?_,Nat.le_refl _,fun hz0=>by have:=hq3 hz0; omega⟩
            have hz':=HZ.out;rw [Nat.mul_comm] at hz';omega
        · rw [length_splice _ _ _ (by have:=HCL2.out; rw [HF.out]; omega)]; exact HF.out
        · rw [splice_take _ _ _ (by rw [HF.out]; omega),HP.out,HCSS.out]
          obtain ⟨_,q,hq1,hq2,hq3⟩:=HQ.out
          rw [show (nums .i64 ((reps m l).take (min i (z - i)))).length=min i (z - i) by have:=HCL.out; rw [HCSS.out] at this; exact this]
          rw [← nums_append]
          congr 1
          rw [hq1];refine (reps_grow m q l hq2 _ ?_).symm;have hz':=HZ.out;rw [Nat.sub_mul,← hq1,Nat.mul_comm m];omega
    · have hd : decide (i<z)=false:=df_ hlt
      have hiz : i=z:=by have:=HQ.out.1; omega
      have hd' : decide ((i : Int)<(z : Int))=false:=df_ (by omega)
      have HIZ:=Lib.hid hiz
      have hrl : (reps m l).length=z:=by rw [reps_len,HZ.out,Nat.mul_comm]
      have HRL:=Lib.hid hrl;clear hiz hrl;go_wp2;go_ret
      refine ⟨_,rfl,Kd.R_of_own (h1:=fun _=>rfl) ?_ (fun _ _=>trivial),HB.out⟩
      rw [HRL.out];have hp:=HP.out
      rw [HIZ.out,List.take_of_length_le (l:=reps m l) (by rw [HRL.out]; exact Nat.le_refl _)] at hp
      refine ⟨by simp [encs,HRL.out],.inr ⟨g,cap,full.toArray,rfl,hb,HH.out,hnc,hcm,by simpa using HF.out,?_⟩⟩
      rw [Nat.mul_one];exact hp
def slices_Repeat_int_int.f (l0 : List Int) (a1 : Int) : Option (List Int):=if 0≤a1∧a1≤1000∧l0.length≤1000 then some (reps a1.toNat l0) else none
theorem slices_Repeat_int_int.calls (A0 : Option Addr) (c0 : Nat) (l0 : List Int) (a1 : Int) (r : List Int) (w : World) (hr0 : Kd.C (Kd.int .i64) w A0 l0.length l0) (hc0 : l0.length≤c0) (h : slices_Repeat_int_int.f l0 a1=some r) :
    Calls Tryd.prog 41 #[.slice A0 l0.length c0,.int .i64 a1] w fun e w'=>∃ v0_ : Value,e=.returned v0_∧Kd.R (Kd.int .i64) 3 w' w.heap.size (fun _=>True) v0_ r∧Below w.heap.size w w':=by
  unfold slices_Repeat_int_int.f at h
  split at h
  · rename_i hx
    injection h with h; subst h
    have:=Repeat_any A0 c0 l0 a1.toNat w hr0 hx.2.2 (by omega)
    rw [Int.toNat_of_nonneg hx.1] at this;exact this
  · cases h
end Go.Proofs.YtbmcbhpkefjhbaaDoor.P
