/- by wip/prune.py -/
import Derived.Deep.LoopGhost
import Derived.Laws.CopyOwn
import Derived.Outline
import Derived.Test.YtjigckhopkclgaaMLeafDecodes2
import Derived.Test.YtjigckhopkclgaaMLeafDecodes3
import Derived.Test.YtjigckhopkclgaaMLeafDecodes4
import Derived.Test.YtjigckhopkclgaaMLeafDecodes5
import Derived.Test.YtjigckhopkclgaaMLeafDecodes6
import Derived.Test.YtjigckhopkclgaaMLeafDecodes7
import Derived.Test.YtjigckhopkclgaaMLeafDecodes8
import Derived.Test.YtjigckhopkclgaaMLeafDecodes10
import Derived.Test.YtjigckhopkclgaaMLeafDecodes13
set_option linter.unusedSimpArgs false
set_option linter.unusedVariables false
namespace Go.Proofs.Ytjigckhopkclgaa.P
open Go.RowKit Ytjigckhopkclgaa Ytjigckhopkclgaa.Mem YtjigckhopkclgaaW.PrintWords YtjigckhopkclgaaW.PrintLast YtjigckhopkclgaaW.PrintMore
theorem and32 (x : Nat) (h : x<4294967296) : Go.bits .and .u64 (x : Int) 4294967295=(x : Int):=by
  rw [Flt.asV x (by omega),show (4294967295 : Int)=((0xFFFFFFFF#64 : BitVec 64).toNat : Int) from rfl,Flt.and64]
  congr 1
  rw [BitVec.toNat_and]
  rw [show (0xFFFFFFFF#64 : BitVec 64).toNat=2 ^ 32 - 1 from rfl,Nat.and_two_pow_sub_one_eq_mod]
  simp only [BitVec.toNat_ofNat]
  omega
set_option maxRecDepth 100000 in
theorem Mul64_any (x y : Nat) (hx : x≤1000) (hy : y≤1000) (w : World) : Calls Try.prog 68 #[.int .u64 (x : Int),.int .u64 (y : Int)] w fun e w'=>e=.returned (.tuple #[.int .u64 0,.int .u64 ((x * y : Nat) : Int)])∧w=w':=by
  have a1:=and32 x (by omega)
  have a2:=and32 y (by omega)
  have a0 : Go.bits .and .u64 0 4294967295=0:=and32 0 (by omega)
  have hz : x * y≤1000000:=Nat.le_trans (Nat.mul_le_mul hx hy) (by decide)
  have s1 : (x : Int) / 4294967296=0:=by omega
  have s2 : (y : Int) / 4294967296=0:=by omega
  obtain ⟨z,hzz⟩ : ∃ z : Nat,z=x * y:=⟨_,rfl⟩
  have hm : (x : Int) * (y : Int)=(z : Int):=by rw [hzz]; exact (Int.natCast_mul x y).symm
  rw [← hzz] at hz ⊢
  have s3 : (z : Int) / 4294967296=0:=by omega
  have s4 : (z : Int) % 18446744073709551616=z:=by omega
  clear hzz;go_enter Try.func68,Try.ntmps68;go_wp2;go_ret2;exact ⟨rfl,rfl⟩
set_option maxRecDepth 100000 in
theorem Mul_any (x y : Nat) (hx : x≤1000) (hy : y≤1000) (w : World) : Calls Try.prog 51 #[.int .u64 (x : Int),.int .u64 (y : Int)] w fun e w'=>e=.returned (.tuple #[.int .u64 0,.int .u64 ((x * y : Nat) : Int)])∧w=w':=by
  have M:=Lib.hid (fun w=>Mul64_any x y hx hy w)
  generalize ((x * y : Nat) : Int)=z at M ⊢
  go_enter Try.func51,Try.ntmps51;go_wp2_with (first|(go_at_call 68; refine (M.out _).mono ?_; rintro e w' ⟨rfl,rfl⟩));go_ret2;exact ⟨rfl,rfl⟩
def reps (m : Nat) (l : List Int) : List Int:=(List.replicate m l).flatten
theorem reps_len (m : Nat) (l : List Int) : (reps m l).length=m * l.length:=by
  unfold reps
  rw [List.length_flatten,List.map_replicate,List.sum_replicate_nat]
theorem reps_add (a b : Nat) (l : List Int) : reps (a + b) l=reps a l++reps b l:=by
  unfold reps
  rw [← List.replicate_append_replicate,List.flatten_append]
theorem reps_grow (m q : Nat) (l : List Int) (hq : q≤m) (r : Nat) (hr : r≤(m - q) * l.length) : (reps m l).take (q * l.length + r)=(reps m l).take (q * l.length)++(reps m l).take r:=by
  have e1 : reps m l=reps q l++reps (m - q) l:=by rw [← reps_add]; congr 1; omega
  have e2 : reps m l=reps (m - q) l++reps q l:=by rw [← reps_add]; congr 1; omega
  have h1 : (reps m l).take (q * l.length)=reps q l:=by
    rw [e1,← reps_len q l,List.take_left]
  have h2 : (reps m l).take r=(reps (m - q) l).take r:=by
    rw [e2,List.take_append_of_le_length (by rw [reps_len]; exact hr)]
  rw [h1,h2,e1,← reps_len q l,List.take_length_add_append]
theorem splice_take (L : List Value) (n : Nat) (cs : List Value) (hn : n≤L.length) : (splice L n cs).take (n + cs.length)=L.take n++cs:=by
  have h1 : (L.take n).length=n:=by rw [List.length_take]; omega
  unfold splice
  rw [← List.append_assoc]
  rw [List.take_append_of_le_length (by rw [List.length_append,h1]; omega),List.take_of_length_le (by rw [List.length_append,h1]; omega)]
theorem nums_take (k : IntKind) (l : List Int) (n : Nat) : (nums k l).take n=nums k (l.take n):=by unfold nums; rw [List.map_take]
theorem add_block0 (g j : Nat) : (⟨g,0,none⟩ : Addr).add j=⟨g,j,none⟩:=by unfold Addr.add; split <;> simp_all
theorem cells_src {W : World} {g : Nat} {full : List Value} {t : TypeId} (h : W.heap[g]?=some (.cells full.toArray t (0,0))) {n : Nat} {cs : List Value} (hc : full.take n=cs) (j : Nat) (v : Value) (hv : cs[j]?=some v) : W.cell? ((⟨g,0,none⟩ : Addr).add j)=some v:=by
  have h2 : full[j]?=some v:=by
    have:=hv;rw [← hc] at this;have hj:=(List.getElem?_eq_some_iff.1 this).1;rw [List.length_take] at hj
    rw [List.getElem?_take_of_lt (by omega)] at this
    exact this
  rw [add_block0]
  exact (bc_ h j).trans (by simpa using h2)
theorem copy_run {P : Program} {w w0 : World} {B : Nat} (dT sT ty elem : TypeId) (hu : P.underlying dT=some (.slice elem)) (hsz : (P.info? elem).map (·.size)=some 1)
    (dp sp : Option Addr) (dLen dCap sLen sCap : Nat) (g off : Nat) (cur : List Value) (t : TypeId) (hg : w.heap[g]?=some (.cells cur.toArray t (0,0))) (cs : List Value) (hn : cs.length=Nat.min sLen dLen)
    (hpos : 0<cs.length→dp=some ⟨g,off,none⟩∧∃ ad,sp=some ad∧∀ j v,cs[j]?=some v→w.cell? (ad.add j)=some v)
    (hfit : off + cs.length≤cur.length) (h1 : ∀ v ∈ cs,v.oneCell'=true) (hb : Below B w0 w) (hBg : B≤g) :
    ∃ w',(Builtin.copy_ #[dT,sT] ty #[.slice dp dLen dCap,.slice sp sLen sCap]).run P w=.ok (goInt cs.length) w'∧w'.heap[g]?=some (.cells (splice cur off cs).toArray t (0,0))∧Below B w0 w':=by
  by_cases h0 : cs.length=0
  · obtain rfl : cs=[]:=List.eq_nil_of_length_eq_zero h0
    exact ⟨w,run_copy_none (P:=P) w dT sT ty elem dp sp dLen dCap sLen sCap hu hsz (by simpa using hn.symm),by simpa [splice] using hg,hb⟩
  · obtain ⟨rfl,ad,rfl,hsrc⟩:=hpos (by omega)
    exact ⟨_,run_copy_row (P:=P) w dT sT ty elem g off dLen dCap ad sLen sCap cur.toArray t cs hu hsz hg hn hsrc (by simpa using hfit) h1,by simpa [splice] using setRow_heap w g _ _ t _ hg,below_setRow hb hBg _⟩
theorem slice_lo (W : World) (g n cap i : Nat) (hi : i≤n) (hc : i<cap) : (Instr.slice 24 (.slice (some ⟨g,0,none⟩) n cap) (some (.int .i64 (i : Int))) none none).run Try.prog W=.ok (.slice (some ⟨g,i,none⟩) (n - i) (cap - i)) W:=by
  obtain ⟨i0,hi0,_,hsz,_⟩:=info_parts Dsg.info64
  have hel : Try.prog.elem 24=3:=by simp [Program.elem,Try.underlying24]
  have hu : Try.prog.underlying 24=some (.slice (Try.prog.elem 24)):=by rw [hel]; exact Try.underlying24
  rw [run_slice_l W 24 (some ⟨g,0,none⟩) n cap hu .i64 (i : Int) (Int.natCast_nonneg _) (by omega),hel]
  simp [sizeOf,typeInfo,hi0,hsz,sliced,Result.andThen,add_block0,show cap≠i by omega]
theorem slice_hi (W : World) (A : Option Addr) (n cap i : Nat) (hi : i≤cap) : (Instr.slice 24 (.slice A n cap) none (some (.int .i64 (i : Int))) none).run Try.prog W=.ok (.slice A i cap) W:=by
  obtain ⟨i0,hi0,_,hsz,_⟩:=info_parts Dsg.info64
  have hel : Try.prog.elem 24=3:=by simp [Program.elem,Try.underlying24]
  have hu : Try.prog.underlying 24=some (.slice (Try.prog.elem 24)):=by rw [hel]; exact Try.underlying24
  have ha : (A.map fun x=>x.add 0)=A:=by cases A <;> simp [Addr.add]
  rw [run_slice_h W 24 A n cap hu .i64 (i : Int) (Int.natCast_nonneg _) (by omega),hel]
  simp [sizeOf,typeInfo,hi0,hsz,sliced,Result.andThen,ha]
def Rep9.T : Bool × List (List Nat × List Nat):=(true,[([],[]),([],[]),([],[]),([1,2],[1,2]),([],[]),([],[]),([4,5],[4,5]),([3,6],[3,6]),([0,7],[0,7]),([8,7,0,1,2,3,4,5,6,7,8],[0,2,5,8])])
def Rep9.B : List Nat:=[0,0,0,6,0,0,48,126,255,511]
theorem Rep9.tab : rtab .any (opsOf Try.f27 9)=Rep9.T:=by kernel_rfl
theorem Rep9.bits : waitsOk Rep9.T.2 Rep9.B=true:=by kernel_rfl
set_option maxRecDepth 100000 in
set_option maxHeartbeats 1000000 in
theorem Repeat_any (A : Option Addr) (c : Nat) (l : List Int) (m : Nat) (w : World) (hr : Kd.C (Kd.int .i64) w A l.length l) (hl : l.length≤1000) (hm : m≤1000) :
    Calls Try.prog 27 #[.slice A l.length c,.int .i64 (m : Int)] w fun e w'=>∃ v,e=.returned v∧Kd.R (Kd.int .i64) 3 w' w.heap.size (fun _=>True) v (reps m l)∧Below w.heap.size w w':=by
  have HB:=Lib.hid (Below.refl w.heap.size w);have HR:=Lib.hid hr;clear hr
  have hz : l.length * m≤1000000:=Nat.le_trans (Nat.mul_le_mul hl hm) (by decide)
  have M:=fun w=>Mul_any l.length m hl hm w
  obtain ⟨z,hzz⟩ : ∃ z : Nat,z=l.length * m:=⟨_,rfl⟩
  simp only [← hzz] at M
  rw [← hzz] at hz;have HM:=Lib.hid M;have HZ:=Lib.hid hzz;clear hzz M
  have f0 : decide ((m : Int)<0)=false:=df_ (by omega)
  have f1 : decide ((9223372036854775807 : Int)<(z : Int))=false:=df_ (by omega)
  have z0 : (0 : Int)≤(z : Int):=Int.natCast_nonneg _;go_enter Try.func27,Try.ntmps27
  go_wp2_with (first|(go_at_call 51; refine (HM.out _).mono ?_; rintro e w' ⟨rfl,rfl⟩)|((with_reducible refine gate_dst (N:=30) rfl ?_); refine Kd.R_make (Kd.int .i64) (w0:=w) w.heap.size 3 rfl rfl 24 (.tmp 29) (.tmp 29) rfl ((z : Int)) rfl rfl Try.underlying24 (.int .i64 0) 8 Dsg.info64 rfl (by decide) (by decide) 0 (okp:=fun _=>True) (ok:=fun _=>True) ?aZ (fun _ h=>h) trivial z0 ?aL (hb0_ HB.out) (bz_ (hb0_ HB.out)) ?_; (case aZ=>rfl); (case aL=>omega); intro v30 w30 ho hb hg hat; have HG30:=Lib.hid hg; have HAT30:=Lib.hid hat; clear hg hat; have HO30:=Lib.hid ho; have HB:=Lib.hid hb; clear ho hb))
  obtain ⟨b,hob,hbw⟩:=HAT30.out;have hown:=Kd.own_of_R HO30.out
  have hlz : (List.replicate (z : Int).toNat (0 : Int)).length=z:=by rw [List.length_replicate,Int.toNat_natCast]
  rw [hlz] at hown;obtain ⟨_,hrow⟩:=hown
  rcases hrow with ⟨hn,_⟩ | ⟨g,cap,cur,hv,hb,hh,hnc,hcm,hcs,_⟩
  · rw [hn] at hob; simp [Value.ownBlock] at hob
  subst hv
  have hcz : cur.size=cap:=by omega
  clear HAT30 HO30 HG30 hob hbw hlz hcs
  obtain ⟨full,hfull⟩ : ∃ full : List Value,cur=full.toArray:=⟨cur.toList,by simp⟩
  subst hfull
  have hfl : full.length=cap:=by simpa using hcz
  have HH:=Lib.hid hh;have HFL:=Lib.hid hfl;clear hcz hh hfl
  obtain ⟨cs,hcs⟩ : ∃ cs,cs=nums .i64 (l.take (min l.length z)):=⟨_,rfl⟩
  have hcl : cs.length=min l.length z:=by rw [hcs]; simp [nums]
  have hsrc : 0<cs.length→(some (⟨g,0,none⟩ : Addr))=some ⟨g,0,none⟩∧∃ ad,A=some ad∧∀ j v,cs[j]?=some v→w30.cell? (ad.add j)=some v:=by
    intro hp;refine ⟨rfl,?_⟩
    obtain ⟨ad,hA,_⟩:=Kd.at_int (Kd.C_below HR.out HB.out) (0 : Int) (by omega) (by omega)
    refine ⟨ad,hA,fun j v hj=>?_⟩
    have hjl:=(List.getElem?_eq_some_iff.1 hj).1
    obtain ⟨ad',hA',hc'⟩:=Kd.at_int (Kd.C_below HR.out HB.out) (j : Int) (by omega) (by omega)
    rw [hA] at hA'
    injection hA' with hA'
    subst hA';rw [Int.toNat_natCast] at hc';rw [hc',← hj,hcs]
    have hjm : j<min l.length z:=by omega
    simp [nums,rd,List.getElem?_take_of_lt hjm,show j<l.length by omega]
  have h1c : ∀ v ∈ cs,v.oneCell'=true:=by
    intro v hv;rw [hcs] at hv
    simp only [nums,List.mem_map] at hv
    obtain ⟨q,_,rfl⟩:=hv;rfl
  have HCS:=Lib.hid hcs;have HCL:=Lib.hid hcl;clear hcs hcl
  obtain ⟨w33,hrun,HH33',hb33⟩:=copy_run (P:=Try.prog) 24 24 3 3 Try.underlying24 (by kernel_rfl) (some ⟨g,0,none⟩) A z cap l.length c g 0 full 3 HH.out cs (by rw [HCL.out]) hsrc (by rw [HCL.out,HFL.out]; omega) h1c HB.out hb
  have HH33:=Lib.hid HH33';have HB33:=Lib.hid hb33;clear HH33' hb33;go_wp2;clear hrun
  have HF33 : Hid ((splice full 0 cs).length=cap):=Lib.hid (by rw [length_splice _ _ _ (by rw [HCL.out,HFL.out]; omega)]; exact HFL.out)
  have HP33 : Hid ((splice full 0 cs).take cs.length=nums .i64 ((reps m l).take cs.length)):=Lib.hid (by
    have h:=splice_take full 0 cs (Nat.zero_le _);rw [Nat.zero_add] at h;rw [h,List.take_zero,List.nil_append,HCL.out];rw [HCS.out]
    congr 1
    rcases Nat.eq_zero_or_pos m with h0|hp
    · have : z=0:=by have:=HZ.out; rw [h0,Nat.mul_zero] at this; exact this
      rw [this,Nat.min_zero,List.take_zero,List.take_zero]
    · have e : reps m l=l++reps (m - 1) l:=by
        have:=reps_add 1 (m - 1) l
        rw [show 1 + (m - 1)=m by omega] at this
        rw [this]
        simp [reps]
      rw [e,List.take_append_of_le_length (Nat.min_le_left _ _)])
  have HQ33 : Hid (cs.length≤z∧∃ q,cs.length=q * l.length∧q≤m∧(0<z→0<q)):=Lib.hid (by
    rw [HCL.out];refine ⟨Nat.min_le_right _ _,?_⟩;have hz':=HZ.out
    rcases Nat.eq_zero_or_pos m with h0|hp
    · rw [h0,Nat.mul_zero] at hz'
      exact ⟨0,by rw [hz']; omega,Nat.zero_le _,fun h=>by omega⟩
    · refine ⟨1,?_,hp,fun _=>by decide⟩
      have : l.length≤z:=by rw [hz']; exact Nat.le_mul_of_pos_right _ hp
      omega)
  clear HCL HCS hsrc h1c HH HFL
  generalize splice full 0 cs=full1 at HH33 HF33 HP33
  generalize cs.length=n1 at HP33 HQ33 ⊢
  go_loopg [8] (z - n1) (fun k v8 wr=>∃ (i : Nat) (full : List Value),k=z - i∧v8=.int .i64 (i : Int)∧Hid (i≤z∧∃ q,i=q * l.length∧q≤m∧(0<z→0<q))∧Hid (wr.heap[g]?=some (.cells full.toArray 3 (0,0)))∧Hid (full.length=cap)∧Hid (full.take i=nums .i64 ((reps m l).take i))∧Hid (Below w.heap.size w wr))
  case atStart=>exact ⟨n1,full1,rfl,rfl,HQ33,HH33,HF33,HP33,HB33⟩
  case round =>
    clear HQ33 HH33 HF33 HP33 HB33 HB;obtain ⟨i,full,rfl,rfl,HQ,HH,HF,HP,HB⟩:=hrel;have i0 : (0 : Int)≤(i : Int):=Int.natCast_nonneg _
    by_cases hlt : i<z
    · have hd : decide (i<z)=true:=dt_ hlt
      have hd' : decide ((i : Int)<(z : Int))=true:=dt_ (by omega)
      have hqz:=HQ.out
      have hi0 : 0<i:=by
        obtain ⟨_,q,hq1,hq2,hq3⟩:=hqz
        have hq:=hq3 (by omega)
        rcases Nat.eq_zero_or_pos l.length with h0|hp
        · have:=HZ.out; rw [h0,Nat.zero_mul] at this; omega
        · rw [hq1]; exact Nat.mul_pos hq hp
      have hs1:=fun W=>slice_lo W g z cap i (by omega) (by omega)
      have hs2:=fun W=>slice_hi W (some ⟨g,0,none⟩) z cap i (by omega)
      obtain ⟨cs,hcs⟩ : ∃ cs,cs=nums .i64 ((reps m l).take (min i (z - i))):=⟨_,rfl⟩
      have hrl : (reps m l).length=z:=by rw [reps_len,HZ.out,Nat.mul_comm]
      have hcl : cs.length=min i (z - i):=by rw [hcs]; simp [nums,hrl]
      have hct : full.take cs.length=cs:=by
        rw [hcl,hcs,← nums_take];have:=HP.out
        have e : full.take (min i (z - i))=(full.take i).take (min i (z - i)):=by rw [List.take_take,Nat.min_eq_left (Nat.min_le_left _ _)]
        rw [e];rw [this,nums_take,nums_take,List.take_take,Nat.min_eq_left (Nat.min_le_left _ _)]
      have h1c : ∀ v ∈ cs,v.oneCell'=true:=by
        intro v hv;rw [hcs] at hv
        simp only [nums,List.mem_map] at hv
        obtain ⟨q,_,rfl⟩:=hv;rfl
      have hcl2 : cs.length≤z - i∧0<cs.length:=by rw [hcl]; omega
      have HS0:=Lib.hid (fun (wx : World) (h : wx.heap[g]?=some (.cells full.toArray 3 (0,0))) (hbx : Below w.heap.size w wx)=>copy_run (P:=Try.prog) 24 24 3 3 Try.underlying24 (by kernel_rfl) (some ⟨g,i,none⟩) (some ⟨g,0,none⟩) (z - i) (cap - i) i cap g i full 3 h cs (by rw [hcl]) (fun _=>⟨rfl,_,rfl,cells_src h hct⟩) (by rw [HF.out]; omega) h1c hbx hb)
      have HCT:=Lib.hid hct;have HCSS:=Lib.hid hcs;have HCL:=Lib.hid hcl;have HRL:=Lib.hid hrl
      have hwr : wrap64 ((i : Int) + (cs.length : Int))=((i + cs.length : Nat) : Int):=by unfold wrap64; omega
      have HCL2:=Lib.hid hcl2;clear hct hcs hcl hrl h1c hcl2 hqz;go_wp2;have HBo:=Lib.hid (be_ (Below.refl wr.heap.size wr));have HBp:=Lib.hid (bp_ HB.out HBo.out);have HHp : Hid (wr.drew.heap[g]?=some (.cells full.toArray 3 (0,0))):=Lib.hid HH.out;clear HBo HB HH
      refine start_ (n:=10) (S:=fun _=>True) (ds:=[]) #[false,false,false,false,false,false,false,false,false,false] (by kernel_rfl) rfl rfl (trivial) (fun hHeld=>?_)
      refine with_tabW Rep9.tab Rep9.bits (fun HT_ HW_=>?_)
      generalize wr.drew=wD at HBp HHp hHeld ⊢; obtain ⟨w5,hrun,hh5,hb5⟩:=HS0.out wD HHp.out HBp.out; have HH5:=Lib.hid hh5; have HB5:=Lib.hid hb5; clear hh5 hb5
      refine pu_ (i:=0) (N:=(some 38)) (v:=?_) (a':=?_) #[true,false,false,false,false,false,false,false,false,false] rfl rfl HT_.out (by kernel_rfl) (fun _ _ _ h=>h) (by rfl) ?_ ?_ ?_;rotate_left;(intro w';go_simp;with_reducible rfl);rotate_left;(simp only [Act.put,u1_,u2_,u3_,i64_w,i32_w];rfl)
      refine pu_ (i:=1) (N:=(some 39)) (v:=?_) (a':=?_) #[true,true,false,false,false,false,false,false,false,false] rfl rfl HT_.out (by kernel_rfl) (fun _ _ _ h=>h) (by rfl) ?_ ?_ ?_;rotate_left;(intro w';go_simp;with_reducible rfl);rotate_left;(simp only [Act.put,u1_,u2_,u3_,i64_w,i32_w];rfl)
      refine pu_ (i:=2) (N:=(some 40)) (v:=?_) (a':=?_) #[true,true,true,false,false,false,false,false,false,false] rfl rfl HT_.out (by kernel_rfl) (fun _ _ _ h=>h) (by rfl) ?_ ?_ ?_;rotate_left;(intro w';go_simp;with_reducible rfl);rotate_left;(simp only [Act.put,u1_,u2_,u3_,i64_w,i32_w];rfl)
      refine pu_ (i:=3) (N:=(some 41)) (v:=?_) (a':=?_) #[true,true,true,true,false,false,false,false,false,false] rfl rfl HT_.out (by kernel_rfl) (fun _ _ _ h=>h) (by rfl) ?_ ?_ ?_;rotate_left;(intro w';go_simp;with_reducible rfl);rotate_left;(simp only [Act.put,u1_,u2_,u3_,i64_w,i32_w];rfl)
      refine pu_ (i:=4) (N:=(some 42)) (v:=?_) (a':=?_) #[true,true,true,true,true,false,false,false,false,false] rfl rfl HT_.out (by kernel_rfl) (fun _ _ _ h=>h) (by rfl) ?_ ?_ ?_;rotate_left;(intro w';go_simp;with_reducible rfl);rotate_left;(simp only [Act.put,u1_,u2_,u3_,i64_w,i32_w];rfl)
      refine pu_ (i:=5) (N:=(some 43)) (v:=?_) (a':=?_) #[true,true,true,true,true,true,false,false,false,false] rfl rfl HT_.out (by kernel_rfl) (fun _ _ _ h=>h) (by rfl) ?_ ?_ ?_;rotate_left;(intro w';go_simp;with_reducible rfl);rotate_left;(simp only [Act.put,u1_,u2_,u3_,i64_w,i32_w];rfl)
      refine pu_ (i:=6) (N:=(some 44)) (v:=?_) (a':=?_) #[true,true,true,true,true,true,true,false,false,false] rfl rfl HT_.out (by kernel_rfl) (fun _ _ _ h=>h) (by rfl) ?_ ?_ ?_;rotate_left;(intro w';go_simp;with_reducible rfl);rotate_left;(simp only [Act.put,u1_,u2_,u3_,i64_w,i32_w];rfl)
      refine one_ (i:=7) (N:=(some 45)) #[true,true,true,true,true,true,true,true,false,false] rfl rfl (one_of HT_.out (by kernel_rfl)) (by decide) (fun K hK=>?_)
      refine value_ (w1:=?_) (v:=?_) (by rfl) rfl ?_ ?_
      rotate_left 2
      · go_simp
        constructor
        · rfl
        · rfl
      refine hK.out _ _ (trivial) (fun hHeld=>?_)
      clear hK K
      refine norm_ (a':=?_) ?_ ?_;rotate_left;(show Act.put _ (some 45) _=_;simp only [Act.put,u1_,u2_,u3_,i64_w,i32_w];rfl)
      clear hrun
      refine pu_ (i:=8) (N:=(some 46)) (v:=?_) (a':=?_) #[true,true,true,true,true,true,true,true,true,false] rfl rfl HT_.out (by kernel_rfl) (fun _ _ _ h=>h) (by rfl) ?_ ?_ ?_;rotate_left;(intro w';go_simp;with_reducible rfl);rotate_left;(simp only [Act.put,u1_,u2_,u3_,i64_w,i32_w];rfl)
      refine pu_ (i:=9) (N:=(some 8)) (v:=?_) (a':=?_) #[true,true,true,true,true,true,true,true,true,true] rfl rfl HT_.out (by kernel_rfl) (fun _ _ _ h=>h) (by rfl) ?_ ?_ ?_;rotate_left;(intro w';go_simp;with_reducible rfl);rotate_left;(simp only [Act.put,u1_,u2_,u3_,i64_w,i32_w];rfl)
      refine done_ (done_of HT_.out (by kernel_rfl)) ?_;go_wp2;go_roundg (z - (i + cs.length))
      case measure=>have:=HCL2.out; omega
      case rel =>
        refine ⟨i + cs.length,splice full i cs,rfl,by go_num,Lib.hid ?_,HH5,Lib.hid ?_,Lib.hid ?_,HB5⟩
        · obtain ⟨_,q,hq1,hq2,hq3⟩:=HQ.out
          have h2:=HCL2.out;have h3:=HCL.out
          refine ⟨by omega,?_⟩
          rcases Nat.le_total (i + i) z with h|h
          · refine ⟨q + q,by rw [Nat.add_mul,← hq1]; omega,?_,fun hz0=>by have:=hq3 hz0; omega⟩
            have hz':=HZ.out
            rcases Nat.lt_or_ge m (q + q) with hlt2|hge
            · exfalso
              have hlp : 0<l.length:=by
                rcases Nat.eq_zero_or_pos l.length with h0|hp
                · rw [h0,Nat.zero_mul] at hz'; omega
                · exact hp
              have h5:=Nat.mul_lt_mul_of_pos_left hlt2 hlp;rw [← hz',Nat.mul_comm,Nat.add_mul,← hq1] at h5;omega
            · exact hge
          · refine ⟨m,?_,Nat.le_refl _,fun hz0=>by have:=hq3 hz0; omega⟩
            have hz':=HZ.out;rw [Nat.mul_comm] at hz';omega
        · rw [length_splice _ _ _ (by have:=HCL2.out; rw [HF.out]; omega)]; exact HF.out
        · rw [splice_take _ _ _ (by rw [HF.out]; omega),HP.out,HCSS.out]
          obtain ⟨_,q,hq1,hq2,hq3⟩:=HQ.out
          rw [show (nums .i64 ((reps m l).take (min i (z - i)))).length=min i (z - i) by have:=HCL.out; rw [HCSS.out] at this; exact this]
          rw [← nums_append]
          congr 1
          rw [hq1];refine (reps_grow m q l hq2 _ ?_).symm;have hz':=HZ.out;rw [Nat.sub_mul,← hq1,Nat.mul_comm m];omega
    · have hd : decide (i<z)=false:=df_ hlt
      have hiz : i=z:=by have:=HQ.out.1; omega
      have hd' : decide ((i : Int)<(z : Int))=false:=df_ (by omega)
      have HIZ:=Lib.hid hiz
      have hrl : (reps m l).length=z:=by rw [reps_len,HZ.out,Nat.mul_comm]
      have HRL:=Lib.hid hrl;clear hiz hrl;go_wp2;go_ret
      refine ⟨_,rfl,Kd.R_of_own (h1:=fun _=>rfl) ?_ (fun _ _=>trivial),HB.out⟩
      rw [HRL.out];have hp:=HP.out
      rw [HIZ.out,List.take_of_length_le (l:=reps m l) (by rw [HRL.out]; exact Nat.le_refl _)] at hp
      refine ⟨by simp [encs,HRL.out],.inr ⟨g,cap,full.toArray,rfl,hb,HH.out,hnc,hcm,by simpa using HF.out,?_⟩⟩
      rw [Nat.mul_one];exact hp
def slices_Repeat_int_int.f (l0 : List Int) (a1 : Int) : Option (List Int):=if 0≤a1∧a1≤1000∧l0.length≤1000 then some (reps a1.toNat l0) else none
theorem slices_Repeat_int_int.calls (A0 : Option Addr) (c0 : Nat) (l0 : List Int) (a1 : Int) (r : List Int) (w : World) (hr0 : Kd.C (Kd.int .i64) w A0 l0.length l0) (hc0 : l0.length≤c0) (h : slices_Repeat_int_int.f l0 a1=some r) :
    Calls Try.prog 27 #[.slice A0 l0.length c0,.int .i64 a1] w fun e w'=>∃ v0_ : Value,e=.returned v0_∧Kd.R (Kd.int .i64) 3 w' w.heap.size (fun _=>True) v0_ r∧Below w.heap.size w w':=by
  unfold slices_Repeat_int_int.f at h
  split at h
  · rename_i hx
    injection h with h; subst h
    have:=Repeat_any A0 c0 l0 a1.toNat w hr0 hx.2.2 (by omega)
    rw [Int.toNat_of_nonneg hx.1] at this;exact this
  · cases h
open Go.RowKit YtjigckhopkclgaaW.PrintWords YtjigckhopkclgaaW.PrintLast YtjigckhopkclgaaW.PrintMore
attribute [local go_sem] max2_int min2_int max_two min_two max_three min_three max_four min_four   -- for this text's walks alone
attribute [local go_sem] run_store_float
mutual
def leaf_Decode.j0 : Nat→List Int→Int→Bool→List Int→Option (List Int × (List (List Int)) × Int)
 | 0,_,_,_,_=>none
 | k + 1,x5,x6,x32,x139000=>if x32=true then (some (([] : List Int),([] : List (List Int)),x6)) else ((some (([1] : List Int) : List Int)).bind fun y144=>((slices_Repeat_int_int.f (([3] : List Int)) 4).bind fun t150=>(if y144.length + t150.length<17592186044416 then ((some (y144++t150 : List Int)).bind fun y153=>(if y153.length<17592186044416 then ((pack_Take.f x5 (y153++[1])).bind fun bt159=>(if bt159.2.2=0 then (if 0<(bt159.1.length : Int) then (leaf_Decode.j1 k x5 bt159.1 bt159.2.1 (((rd_T56 bt159.1 0).f1) != 76) x139000) else (none)) else (leaf_Decode.j1 k x5 bt159.1 bt159.2.1 true x139000))) else (none))) else (none))))
def leaf_Decode.j1 : Nat→List Int→List (S56)→Int→Bool→List Int→Option (List Int × (List (List Int)) × Int)
 | 0,_,_,_,_,_=>none
 | k + 1,x5,x8,x9,x56,x139000=>if x56=true then (some (([] : List Int),([] : List (List Int)),4)) else (leaf_Decode.l0 k x5 x8 x9 x139000 (x139000.length : Int) 0)
def leaf_Decode.l0 : Nat→List Int→List (S56)→Int→List Int→Int→Int→Option (List Int × (List (List Int)) × Int)
 | 0,_,_,_,_,_,_=>none
 | k + 1,x5,x8,x9,x59,x60,x61=>if x61<x60 then (if 0≤(wrap64 (1 + x61)) then (if (wrap64 (1 + x61))<(x8.length : Int) then (if 0≤x61 then (if x61<(x59.length : Int) then (leaf_Decode.l0 k x5 x8 x9 (x59.set (x61 : Int).toNat ((rd_T56 x8 (wrap64 (1 + x61))).f1)) x60 (wrap64 (x61 + 1))) else (none)) else (none)) else (none)) else (none)) else (if 0≤x9 then (if x9≤(x5.length : Int) then (if 5<(x8.length : Int) then ((slices_Repeat_int_int.f (([5] : List Int)) ((rd_T56 x8 5).f1)).bind fun t175=>((pack_Take.f (x5.drop (x9 : Int).toNat) t175).bind fun bt178=>(if bt178.2.2=0 then (if 0≤(wrap64 (x9 + bt178.2.1)) then (if (wrap64 (x9 + bt178.2.1))≤(x5.length : Int) then ((leaf_nought.f (x5.drop ((wrap64 (x9 + bt178.2.1)) : Int).toNat)).bind fun t187=>(leaf_Decode.j3 k bt178.1 (!t187) x59)) else (none)) else (none)) else (leaf_Decode.j3 k bt178.1 true x59)))) else (none)) else (none)) else (none))
def leaf_Decode.j3 : Nat→List (S56)→Bool→List Int→Option (List Int × (List (List Int)) × Int)
 | 0,_,_,_=>none
 | k + 1,x11,x99,x139000=>if x99=true then (some (([] : List Int),([] : List (List Int)),4)) else (leaf_Decode.l1 k x11 (x11.length : Int) 0 x139000 ([] : List (List Int)))
def leaf_Decode.l1 : Nat→List (S56)→Int→Int→List Int→List (List Int)→Option (List Int × (List (List Int)) × Int)
 | 0,_,_,_,_,_=>none
 | k + 1,x101,x102,x103,x139000,x139001=>leaf_Decode.j5 k x101 x102 x103 (decide (x103<x102)) x139000 x139001
def leaf_Decode.j5 : Nat→List (S56)→Int→Int→Bool→List Int→List (List Int)→Option (List Int × (List (List Int)) × Int)
 | 0,_,_,_,_,_,_=>none
 | k + 1,x101,x102,x103,x104,x139000,x139001=>if x104=true then (if 0≤x103 then (if x103<(x101.length : Int) then (if (((rd_T56 x101 x103).f3) : ByteArray).size≤1000000 then (if x139001.length<5864062014805 then (leaf_Decode.l1 k x101 x102 (wrap64 (x103 + 1)) x139000 (x139001++[(bytesOf ((rd_T56 x101 x103).f3))])) else (none)) else (none)) else (none)) else (none)) else ((leaf_Check.f k x139000 x139001).bind fun t196=>(if t196=0 then (some (x139000,x139001,0)) else (some (([] : List Int),([] : List (List Int)),4))))
end
def leaf_Decode.f (k : Nat) (l0 : List Int) : Option (List Int × (List (List Int)) × Int):=if 4≤35184372088832 then ((some (List.replicate 4 0 : List Int)).bind fun y135=>(if (l0.length : Int)=512 then ((leaf_nought.f l0).bind fun t139=>(if t139=true then (some (y135,([] : List (List Int)),0)) else ((tally_Open.f k l0).bind fun bt140=>(leaf_Decode.j0 k bt140.1 bt140.2 (bt140.2 != 0) y135)))) else (some (([] : List Int),([] : List (List Int)),1)))) else (none)
theorem leaf_Decode.mono_l : ∀ k,(∀ y0 y1 y2 y3,LeO (leaf_Decode.j0 k y0 y1 y2 y3) (leaf_Decode.j0 (k + 1) y0 y1 y2 y3))∧(∀ y0 y1 y2 y3 y4,LeO (leaf_Decode.j1 k y0 y1 y2 y3 y4) (leaf_Decode.j1 (k + 1) y0 y1 y2 y3 y4))∧(∀ y0 y1 y2 y3 y4 y5,LeO (leaf_Decode.l0 k y0 y1 y2 y3 y4 y5) (leaf_Decode.l0 (k + 1) y0 y1 y2 y3 y4 y5))∧(∀ y0 y1 y2,LeO (leaf_Decode.j3 k y0 y1 y2) (leaf_Decode.j3 (k + 1) y0 y1 y2))∧(∀ y0 y1 y2 y3 y4,LeO (leaf_Decode.l1 k y0 y1 y2 y3 y4) (leaf_Decode.l1 (k + 1) y0 y1 y2 y3 y4))∧(∀ y0 y1 y2 y3 y4 y5,LeO (leaf_Decode.j5 k y0 y1 y2 y3 y4 y5) (leaf_Decode.j5 (k + 1) y0 y1 y2 y3 y4 y5))
 | 0=>⟨fun _ _ _ _ r h=>by simp [leaf_Decode.j0] at h,fun _ _ _ _ _ r h=>by simp [leaf_Decode.j1] at h,fun _ _ _ _ _ _ r h=>by simp [leaf_Decode.l0] at h,fun _ _ _ r h=>by simp [leaf_Decode.j3] at h,fun _ _ _ _ _ r h=>by simp [leaf_Decode.l1] at h,fun _ _ _ _ _ _ r h=>by simp [leaf_Decode.j5] at h⟩
 | k + 1=>by
  obtain ⟨ih0,ih1,ih2,ih3,ih4,ih5⟩:=leaf_Decode.mono_l k;refine ⟨?_,?_,?_,?_,?_,?_⟩
  ·intro y0 y1 y2 y3
   unfold leaf_Decode.j0
   repeat' first
   | (with_reducible exact ih0 _ _ _ _)
   | (with_reducible exact ih1 _ _ _ _ _)
   | (with_reducible exact ih2 _ _ _ _ _ _)
   | (with_reducible exact ih3 _ _ _)
   | (with_reducible exact ih4 _ _ _ _ _)
   | (with_reducible exact ih5 _ _ _ _ _ _)
   | (with_reducible exact leaf_Check.mono _ _ _)
   | (with_reducible exact tally_Open.mono _ _)
   | (with_reducible exact LeO.refl _)
   | (with_reducible exact LeO.none _)
   | (with_reducible refine LeO.ite ?_ ?_)
   | (with_reducible refine LeO.bind ?_ (fun _=>?_))
   | exact ih0 _ _ _ _
   | exact ih1 _ _ _ _ _
   | exact ih2 _ _ _ _ _ _
   | exact ih3 _ _ _
   | exact ih4 _ _ _ _ _
   | exact ih5 _ _ _ _ _ _
   | exact leaf_Check.mono _ _ _
   | exact tally_Open.mono _ _
   | exact LeO.none _
   | refine LeO.ite ?_ ?_
   | refine LeO.bind ?_ (fun _=>?_)
  ·intro y0 y1 y2 y3 y4
   unfold leaf_Decode.j1
   repeat' first
   | (with_reducible exact ih0 _ _ _ _)
   | (with_reducible exact ih1 _ _ _ _ _)
   | (with_reducible exact ih2 _ _ _ _ _ _)
   | (with_reducible exact ih3 _ _ _)
   | (with_reducible exact ih4 _ _ _ _ _)
   | (with_reducible exact ih5 _ _ _ _ _ _)
   | (with_reducible exact leaf_Check.mono _ _ _)
   | (with_reducible exact tally_Open.mono _ _)
   | (with_reducible exact LeO.refl _)
   | (with_reducible exact LeO.none _)
   | (with_reducible refine LeO.ite ?_ ?_)
   | (with_reducible refine LeO.bind ?_ (fun _=>?_))
   | exact ih0 _ _ _ _
   | exact ih1 _ _ _ _ _
   | exact ih2 _ _ _ _ _ _
   | exact ih3 _ _ _
   | exact ih4 _ _ _ _ _
   | exact ih5 _ _ _ _ _ _
   | exact leaf_Check.mono _ _ _
   | exact tally_Open.mono _ _
   | exact LeO.none _
   | refine LeO.ite ?_ ?_
   | refine LeO.bind ?_ (fun _=>?_)
  ·intro y0 y1 y2 y3 y4 y5
   unfold leaf_Decode.l0
   repeat' first
   | (with_reducible exact ih0 _ _ _ _)
   | (with_reducible exact ih1 _ _ _ _ _)
   | (with_reducible exact ih2 _ _ _ _ _ _)
   | (with_reducible exact ih3 _ _ _)
   | (with_reducible exact ih4 _ _ _ _ _)
   | (with_reducible exact ih5 _ _ _ _ _ _)
   | (with_reducible exact leaf_Check.mono _ _ _)
   | (with_reducible exact tally_Open.mono _ _)
   | (with_reducible exact LeO.refl _)
   | (with_reducible exact LeO.none _)
   | (with_reducible refine LeO.ite ?_ ?_)
   | (with_reducible refine LeO.bind ?_ (fun _=>?_))
   | exact ih0 _ _ _ _
   | exact ih1 _ _ _ _ _
   | exact ih2 _ _ _ _ _ _
   | exact ih3 _ _ _
   | exact ih4 _ _ _ _ _
   | exact ih5 _ _ _ _ _ _
   | exact leaf_Check.mono _ _ _
   | exact tally_Open.mono _ _
   | exact LeO.none _
   | refine LeO.ite ?_ ?_
   | refine LeO.bind ?_ (fun _=>?_)
  ·intro y0 y1 y2
   unfold leaf_Decode.j3
   repeat' first
   | (with_reducible exact ih0 _ _ _ _)
   | (with_reducible exact ih1 _ _ _ _ _)
   | (with_reducible exact ih2 _ _ _ _ _ _)
   | (with_reducible exact ih3 _ _ _)
   | (with_reducible exact ih4 _ _ _ _ _)
   | (with_reducible exact ih5 _ _ _ _ _ _)
   | (with_reducible exact leaf_Check.mono _ _ _)
   | (with_reducible exact tally_Open.mono _ _)
   | (with_reducible exact LeO.refl _)
   | (with_reducible exact LeO.none _)
   | (with_reducible refine LeO.ite ?_ ?_)
   | (with_reducible refine LeO.bind ?_ (fun _=>?_))
   | exact ih0 _ _ _ _
   | exact ih1 _ _ _ _ _
   | exact ih2 _ _ _ _ _ _
   | exact ih3 _ _ _
   | exact ih4 _ _ _ _ _
   | exact ih5 _ _ _ _ _ _
   | exact leaf_Check.mono _ _ _
   | exact tally_Open.mono _ _
   | exact LeO.none _
   | refine LeO.ite ?_ ?_
   | refine LeO.bind ?_ (fun _=>?_)
  ·intro y0 y1 y2 y3 y4
   unfold leaf_Decode.l1
   repeat' first
   | (with_reducible exact ih0 _ _ _ _)
   | (with_reducible exact ih1 _ _ _ _ _)
   | (with_reducible exact ih2 _ _ _ _ _ _)
   | (with_reducible exact ih3 _ _ _)
   | (with_reducible exact ih4 _ _ _ _ _)
   | (with_reducible exact ih5 _ _ _ _ _ _)
   | (with_reducible exact leaf_Check.mono _ _ _)
   | (with_reducible exact tally_Open.mono _ _)
   | (with_reducible exact LeO.refl _)
   | (with_reducible exact LeO.none _)
   | (with_reducible refine LeO.ite ?_ ?_)
   | (with_reducible refine LeO.bind ?_ (fun _=>?_))
   | exact ih0 _ _ _ _
   | exact ih1 _ _ _ _ _
   | exact ih2 _ _ _ _ _ _
   | exact ih3 _ _ _
   | exact ih4 _ _ _ _ _
   | exact ih5 _ _ _ _ _ _
   | exact leaf_Check.mono _ _ _
   | exact tally_Open.mono _ _
   | exact LeO.none _
   | refine LeO.ite ?_ ?_
   | refine LeO.bind ?_ (fun _=>?_)
  ·intro y0 y1 y2 y3 y4 y5
   unfold leaf_Decode.j5
   repeat' first
   | (with_reducible exact ih0 _ _ _ _)
   | (with_reducible exact ih1 _ _ _ _ _)
   | (with_reducible exact ih2 _ _ _ _ _ _)
   | (with_reducible exact ih3 _ _ _)
   | (with_reducible exact ih4 _ _ _ _ _)
   | (with_reducible exact ih5 _ _ _ _ _ _)
   | (with_reducible exact leaf_Check.mono _ _ _)
   | (with_reducible exact tally_Open.mono _ _)
   | (with_reducible exact LeO.refl _)
   | (with_reducible exact LeO.none _)
   | (with_reducible refine LeO.ite ?_ ?_)
   | (with_reducible refine LeO.bind ?_ (fun _=>?_))
   | exact ih0 _ _ _ _
   | exact ih1 _ _ _ _ _
   | exact ih2 _ _ _ _ _ _
   | exact ih3 _ _ _
   | exact ih4 _ _ _ _ _
   | exact ih5 _ _ _ _ _ _
   | exact leaf_Check.mono _ _ _
   | exact tally_Open.mono _ _
   | exact LeO.none _
   | refine LeO.ite ?_ ?_
   | refine LeO.bind ?_ (fun _=>?_)
theorem leaf_Decode.mono : ∀ a0 k,LeO (leaf_Decode.f k a0) (leaf_Decode.f (k + 1) a0):=by
 intro a0 k;obtain ⟨ih0,ih1,ih2,ih3,ih4,ih5⟩:=leaf_Decode.mono_l k
 unfold leaf_Decode.f
 repeat' first
   | (with_reducible exact ih0 _ _ _ _)
   | (with_reducible exact ih1 _ _ _ _ _)
   | (with_reducible exact ih2 _ _ _ _ _ _)
   | (with_reducible exact ih3 _ _ _)
   | (with_reducible exact ih4 _ _ _ _ _)
   | (with_reducible exact ih5 _ _ _ _ _ _)
   | (with_reducible exact leaf_Check.mono _ _ _)
   | (with_reducible exact tally_Open.mono _ _)
   | (with_reducible exact LeO.refl _)
   | (with_reducible exact LeO.none _)
   | (with_reducible refine LeO.ite ?_ ?_)
   | (with_reducible refine LeO.bind ?_ (fun _=>?_))
   | exact ih0 _ _ _ _
   | exact ih1 _ _ _ _ _
   | exact ih2 _ _ _ _ _ _
   | exact ih3 _ _ _
   | exact ih4 _ _ _ _ _
   | exact ih5 _ _ _ _ _ _
   | exact leaf_Check.mono _ _ _
   | exact tally_Open.mono _ _
   | exact LeO.none _
   | refine LeO.ite ?_ ?_
   | refine LeO.bind ?_ (fun _=>?_)
def leaf_Decode.T16 : Bool × List (List Nat × List Nat):=(true,[([],[]),([0],[0]),([],[]),([],[]),([],[]),([4],[4]),([3,5],[3,5]),([6],[6]),([7],[7]),([1,2,0,1,2,3,4,5,6,7,8],[1,2]),([9,8,0,1,2,3,4,5,6,7,8],[8,9])])
def leaf_Decode.B16 : List Nat:=[0,1,0,0,0,16,56,120,248,511,1023]
theorem leaf_Decode.tab16 : rtab .any (opsOf Try.f9 16)=leaf_Decode.T16:=by kernel_rfl
theorem leaf_Decode.bits16 : waitsOk leaf_Decode.T16.2 leaf_Decode.B16=true:=by kernel_rfl
def leaf_Decode.T18 : Bool × List (List Nat × List Nat):=(true,[([],[]),([],[]),([0,1],[0,1]),([],[]),([],[]),([4],[4]),([5],[5]),([6],[6]),([3,7],[3,7]),([2,8,8],[2,8]),([9],[9]),([10],[10]),([10],[10]),([10],[10]),([11,9,0,1,2,3,4,5,6,7,8,9,10,11],[11]),([12,14,0,1,2,3,4,5,6,7,8,9,10,11,12,14],[12]),([13,15,0,1,2,3,4,5,6,7,8,9,10,11,12,13,14,15],[13])])
def leaf_Decode.B18 : List Nat:=[0,0,3,0,0,16,48,112,248,511,1023,2047,2047,2047,4095,24575,65535]
theorem leaf_Decode.tab18 : rtab .any (opsOf Try.f9 18)=leaf_Decode.T18:=by kernel_rfl
theorem leaf_Decode.bits18 : waitsOk leaf_Decode.T18.2 leaf_Decode.B18=true:=by kernel_rfl
set_option maxHeartbeats 8000000 in
set_option maxRecDepth 100000 in
theorem leaf_Decode.calls (k : Nat) (A0 : Option Addr) (c0 : Nat) (l0 : List Int) (r1 : List Int) (r2 : List (List Int)) (r3 : Int) (w : World) (hr0 : Kd.C (Kd.int .u8) w A0 l0.length l0) (hc0 : l0.length≤c0) (h : leaf_Decode.f k l0=some (r1,r2,r3)) :
  Calls Try.prog 9 #[.slice A0 l0.length c0] w fun e w'=>∃ v0_ v1_ : Value,e=.returned (.tuple #[.agg #[v0_,v1_],.int .i64 r3])∧Kd.R (Kd.int .i64) 3 w' w.heap.size (fun k_=>(w.heap.size≤k_)) v0_ r1∧Kd.N (Kd.slice 5 (Kd.int .u8)) 22 w' w.heap.size (fun k_=>(w.heap.size≤k_)∧some k_≠(v0_ : Value).ownBlock) v1_ r2∧Below w.heap.size w w':=by
 have hu27:=Try.underlying27;have hu56:=Try.underlying56;have HR0:=A_ hr0;have HC0:=A_ hc0;clear hr0 hc0;have HB:=A_ (Below.refl w.heap.size w)
 have H : (if 4≤35184372088832 then ((some (List.replicate 4 0 : List Int)).bind fun y135=>(if (l0.length : Int)=512 then ((leaf_nought.f l0).bind fun t139=>(if t139=true then (some (y135,([] : List (List Int)),0)) else ((tally_Open.f k l0).bind fun bt140=>(leaf_Decode.j0 k bt140.1 bt140.2 (bt140.2 != 0) y135)))) else (some (([] : List Int),([] : List (List Int)),1)))) else (none))=some (r1,r2,r3):=h
 clear h
 by_cases c2 : 4≤35184372088832
 rotate_left
 ·rw [if_neg c2] at H
  exact absurd H (by simp)
 rw [if_pos c2] at H
 have c2b0:=eq_true c2;have c2b1 : decide (4≤35184372088832)=true:=dt_ c2;clear c2
 obtain ⟨y135,hy135⟩ : ∃ y_ : List Int,y_=(List.replicate 4 0):=⟨_,rfl⟩
 replace H : (if (l0.length : Int)=512 then ((leaf_nought.f l0).bind fun t139=>(if t139=true then (some (y135,([] : List (List Int)),0)) else ((tally_Open.f k l0).bind fun bt140=>(leaf_Decode.j0 k bt140.1 bt140.2 (bt140.2 != 0) y135)))) else (some (([] : List Int),([] : List (List Int)),1)))=some (r1,r2,r3):=by first|(rw [hy135];with_reducible exact H)|(have H2_:=(Option.bind_some _ _).symm.trans H;rw [hy135];with_reducible exact H2_)|(have H2_:=(Option.bind_some _ _).symm.trans H;with_reducible exact H2_)|with_reducible exact H|(rw [hy135];exact H)|exact H
 have Ny135:=A_ hy135;clear hy135
 by_cases c3 : (l0.length : Int)=512
 rotate_left
 ·rw [if_neg c3] at H
  have c3b0 : ((l0.length : Int) == 512)=false:=beq_eq_false_iff_ne.mpr c3;have c3b1 : ((l0.length : Int) != 512)=true:=bne_iff_ne.mpr c3
  simp only [Option.some.injEq,Prod.mk.injEq] at H
  obtain ⟨rfl,rfl,rfl⟩:=H;go_enter Try.func9,Try.ntmps9
  go_wp2_with (first|((with_reducible refine gate_dst (N:=2) rfl ?_);refine box_event ?hg (N:=2) ?hd (cs:=#[.slice none 0 0,.slice none 0 0]) (t:=27) ?hr ?_;(case hd=>rfl);(case hg=>rfl);(case hr=>first|(go_simp;done)|(go_simp;rfl));intro gb134 hg w122 hbox hb;have n0_:=A_ (bp_ (hb0_ HB.out) hb);have n1_:=A_ (hbox);have n2_:=A_ ((by rw [hg];exact (bz_ (hb0_ HB.out)) : w.heap.size≤gb134));have n3_:=n2_;clear HB;have HB:=n0_;have BK134:=n1_;have GW134:=n2_;have GE134:=n3_;clear n0_ n1_ n2_ n3_;clear hb hbox hg)|((with_reducible refine gate_dst (N:=15) rfl ?_);refine Kd.R_make (Kd.int .i64) _ 3 rfl (N:=15) rfl 24 _ _ rfl 4 rfl rfl Try.underlying24 (.int .i64 0) 8 info3 rfl (by decide) (by omega) 0 (ok:=fun _=>True) (okp:=fun _=>True) rfl (fun _ hk=>hk) trivial (by omega) (by omega) (Below.refl _ _) (Nat.le_refl _) ?_;intro v136 w123 ho124 hb hg_ hnew_;clear hg_ hnew_;(first|rw [← Ny135.out] at ho124|(simp only [Int.reduceToNat] at ho124;rw [← Ny135.out] at ho124));have n0_:=A_ (Kd.R_lower (Kd.R_newM (M:=fun k_=>(w.heap.size≤k_)) ho124 (bz_ (hb1_ HB.out GE134.out)) (fun k_ h_=>h_)) (bz_ (hb1_ HB.out GE134.out)));have n1_:=A_ (bx_ BK134.out kf_ hb);have n2_:=A_ (bp_ (hb1_ HB.out GE134.out) hb);clear BK134;clear HB;have HO137:=n0_;have BK134:=n1_;have HB:=n2_;clear n0_ n1_ n2_;clear hb ho124;obtain ⟨Ao125,co125,eo125⟩:=Kd.R_slice HO137.out;subst eo125)|((with_reducible refine gate_dst (N:=4) rfl ?_);refine box_event ?hg (N:=4) ?hd (cs:=#[.slice none 0 0,.slice none 0 0]) (t:=27) ?hr ?_;(case hd=>rfl);(case hg=>rfl);(case hr=>first|(go_simp;done)|(go_simp;rfl));intro gb138 hg w126 hbox hb;have n0_:=A_ (Kd.R_below (by (with_reducible repeat (first|apply ra_|apply rn_|apply re_));exact HO137.out) hb);have n1_:=A_ (bx_ BK134.out kf_ hb);have n2_:=A_ (bp_ (hb1_ HB.out GE134.out) hb);have n3_:=A_ (hbox);have n4_:=A_ ((by rw [hg];exact (bz_ (hb1_ HB.out GE134.out)) : w.heap.size≤gb138));have n5_:=n4_;have n6_:=A_ ((by rw [hg];exact Nat.ne_of_lt (bl_ BK134.out kf_) : gb134≠gb138));have n7_:=A_ (Ne.symm n6_.out);clear HO137;clear BK134;clear HB;have HO137:=n0_;have BK134:=n1_;have HB:=n2_;have BK138:=n3_;have GW138:=n4_;have GE138:=n5_;have NB134_138:=n6_;have NB138_134:=n7_;clear n0_ n1_ n2_ n3_ n4_ n5_ n6_ n7_;clear hb hbox hg;have hnb127:=NB138_134.out;have hnc127:=NB134_138.out;have z128_0 : w126.cell? ⟨gb138,0,none⟩=some (.slice none 0 0):=(bc_ BK138.out 0).trans rfl;have z128_1 : w126.cell? ⟨gb138,1,none⟩=some (.slice none 0 0):=(bc_ BK138.out 1).trans rfl;have y128_0:=bf_ BK138.out 0;have y128_1:=bf_ BK138.out 1;have z129_0 : w126.cell? ⟨gb134,0,none⟩=some (.slice none 0 0):=(bc_ BK134.out 0).trans rfl;have z129_1 : w126.cell? ⟨gb134,1,none⟩=some (.slice none 0 0):=(bc_ BK134.out 1).trans rfl;have y129_0:=bf_ BK134.out 0;have y129_1:=bf_ BK134.out 1))
  refine bodyPost_ret (results_ct rfl _ _ gb134 27 #[.slice none 0 0,.slice none 0 0] (0,0) _ rfl (by refine kk_ ?_;refine blk_put (cs:=#[.slice none 0 0,.slice none 0 0]) ?_ 1 _ rfl;refine kk_ ?_;refine blk_put (cs:=#[.slice none 0 0,.slice none 0 0]) ?_ 0 _ rfl;refine kk_ ?_;refine blk_far ?_ NB134_138.out _;refine kk_ ?_;refine blk_far ?_ NB134_138.out _;exact kk_ BK134.out) Try.underlying27 rfl (by kernel_rfl)) rfl ?_
  exact ⟨_,_,by first|rfl|(simp [errW_none,errW_some] <;> rfl)|(simp [*,errW_none,errW_some] <;> rfl),by first|exact Kd.R_nil _ _ _ _ _|exact Kd.N_nil _ _ _ _ _|exact Kd.V_nil _ _ _ _ _|exact Kd.Q_nil _ _ _ _ _|exact Kd.S_nil _ _ _ _ _,by first|exact Kd.S_nil _ _ _ _ _|exact Kd.N_nil _ _ _ _ _|exact Kd.V_nil _ _ _ _ _|exact Kd.Q_nil _ _ _ _ _|exact Kd.R_nil _ _ _ _ _,hb2_ HB.out GE134.out GE138.out⟩
 rw [if_pos c3] at H
 have c3b0 : ((l0.length : Int) == 512)=true:=beq_iff_eq.mpr c3;have c3b1 : ((l0.length : Int) != 512)=false:=bne_eq_false_iff_eq.mpr c3;clear c3;replace H:=Option.bind_eq_some_iff.mp H;obtain ⟨t139,A40,H⟩:=H
 replace H : (if t139=true then (some (y135,([] : List (List Int)),0)) else ((tally_Open.f k l0).bind fun bt140=>(leaf_Decode.j0 k bt140.1 bt140.2 (bt140.2 != 0) y135)))=some (r1,r2,r3):=H
 have A4:=A_ A40;clear A40
 by_cases c5 : t139=true
 ·subst c5
  have H1 : (some (y135,([] : List (List Int)),0))=some (r1,r2,r3):=by rw [if_pos rfl] at H;exact H
  clear H;have H:=H1;clear H1
  simp only [Option.some.injEq,Prod.mk.injEq] at H
  obtain ⟨rfl,rfl,rfl⟩:=H;go_enter Try.func9,Try.ntmps9
  go_wp2_with (first|((with_reducible refine gate_dst (N:=2) rfl ?_);refine box_event ?hg (N:=2) ?hd (cs:=#[.slice none 0 0,.slice none 0 0]) (t:=27) ?hr ?_;(case hd=>rfl);(case hg=>rfl);(case hr=>first|(go_simp;done)|(go_simp;rfl));intro gb134 hg w6 hbox hb;have n0_:=A_ (bp_ (hb0_ HB.out) hb);have n1_:=A_ (hbox);have n2_:=A_ ((by rw [hg];exact (bz_ (hb0_ HB.out)) : w.heap.size≤gb134));have n3_:=n2_;clear HB;have HB:=n0_;have BK134:=n1_;have GW134:=n2_;have GE134:=n3_;clear n0_ n1_ n2_ n3_;clear hb hbox hg)|((with_reducible refine gate_dst (N:=15) rfl ?_);refine Kd.R_make (Kd.int .i64) _ 3 rfl (N:=15) rfl 24 _ _ rfl 4 rfl rfl Try.underlying24 (.int .i64 0) 8 info3 rfl (by decide) (by omega) 0 (ok:=fun _=>True) (okp:=fun _=>True) rfl (fun _ hk=>hk) trivial (by omega) (by omega) (Below.refl _ _) (Nat.le_refl _) ?_;intro v136 w7 ho8 hb hg_ hnew_;clear hg_ hnew_;(first|rw [← Ny135.out] at ho8|(simp only [Int.reduceToNat] at ho8;rw [← Ny135.out] at ho8));have n0_:=A_ (Kd.R_lower (Kd.R_newM (M:=fun k_=>(w.heap.size≤k_)) ho8 (bz_ (hb1_ HB.out GE134.out)) (fun k_ h_=>h_)) (bz_ (hb1_ HB.out GE134.out)));have n1_:=A_ (bx_ BK134.out kf_ hb);have n2_:=A_ (bp_ (hb1_ HB.out GE134.out) hb);clear BK134;clear HB;have HO137:=n0_;have BK134:=n1_;have HB:=n2_;clear n0_ n1_ n2_;clear hb ho8;obtain ⟨Ao9,co9,eo9⟩:=Kd.R_slice HO137.out;subst eo9)|((with_reducible refine gate_dst (N:=4) rfl ?_);refine box_event ?hg (N:=4) ?hd (cs:=#[.slice none 0 0,.slice none 0 0]) (t:=27) ?hr ?_;(case hd=>rfl);(case hg=>rfl);(case hr=>first|(go_simp;done)|(go_simp;rfl));intro gb138 hg w10 hbox hb;have n0_:=A_ (Kd.R_below (by (with_reducible repeat (first|apply ra_|apply rn_|apply re_));exact HO137.out) hb);have n1_:=A_ (bx_ BK134.out kf_ hb);have n2_:=A_ (bp_ (hb1_ HB.out GE134.out) hb);have n3_:=A_ (hbox);have n4_:=A_ ((by rw [hg];exact (bz_ (hb1_ HB.out GE134.out)) : w.heap.size≤gb138));have n5_:=n4_;have n6_:=A_ ((by rw [hg];exact Nat.ne_of_lt (bl_ BK134.out kf_) : gb134≠gb138));have n7_:=A_ (Ne.symm n6_.out);clear HO137;clear BK134;clear HB;have HO137:=n0_;have BK134:=n1_;have HB:=n2_;have BK138:=n3_;have GW138:=n4_;have GE138:=n5_;have NB134_138:=n6_;have NB138_134:=n7_;clear n0_ n1_ n2_ n3_ n4_ n5_ n6_ n7_;clear hb hbox hg;have hnb11:=NB138_134.out;have hnc11:=NB134_138.out;have z12_0 : w10.cell? ⟨gb138,0,none⟩=some (.slice none 0 0):=(bc_ BK138.out 0).trans rfl;have z12_1 : w10.cell? ⟨gb138,1,none⟩=some (.slice none 0 0):=(bc_ BK138.out 1).trans rfl;have y12_0:=bf_ BK138.out 0;have y12_1:=bf_ BK138.out 1)|((with_reducible refine gate_callee (f:=25) rfl ?_);refine goesL_ (some 24) rfl rfl Try.func25 (by kernel_rfl) rfl #[.slice A0 l0.length c0] rfl (by (try simp only [List.map_toArray,List.map_cons,List.map_nil]);first|done|rfl|(simp only [List.length_drop,List.length_take];rfl)) ?_;(with_reducible refine (leaf_nought.calls _ _ l0 true _ ?side1 ?side2 A4.out).mono ?_);(case side1=>exact Kd.C_below HR0.out (hb2_ HB.out GE134.out GE138.out));(case side2=>exact HC0.out);rintro e w13 ⟨rfl,hb⟩;refine ⟨_,rfl,?_⟩;have n0_:=A_ (Kd.R_below (by (with_reducible repeat (first|apply ra_|apply rn_|apply re_));exact (Kd.R_mono (rf_ (p:=⟨gb138,1,none⟩) (rf_ (p:=⟨gb138,0,none⟩) (Kd.R_types HO137.out BK138.out (by decide)) (fun _ hk=>hk.2) (.slice Ao9 y135.length co9)) (fun _ hk=>hk.2) (.slice none 0 0)) (fun _ h_=>h_.1))) hb);have n1_:=A_ (bb_ (g:=gb134) (o:=.cells #[.slice none 0 0,.slice none 0 0] 27 (0,0)) (by refine kk_ ?_;refine blk_far ?_ NB134_138.out _;refine kk_ ?_;refine blk_far ?_ NB134_138.out _;exact kk_ BK134.out) hb);have n2_:=A_ (bb_ (g:=gb138) (o:=.cells #[.slice Ao9 y135.length co9,.slice none 0 0] 27 (0,0)) (by refine kk_ ?_;refine blk_put (cs:=#[.slice Ao9 y135.length co9,.slice none 0 0]) ?_ 1 _ rfl;refine kk_ ?_;refine blk_put (cs:=#[.slice none 0 0,.slice none 0 0]) ?_ 0 _ rfl;exact kk_ BK138.out) hb);have n3_:=A_ (bp_ (hb2_ HB.out GE134.out GE138.out) hb);clear HO137;clear BK134;clear BK138;clear HB;have HO137:=n0_;have BK134:=n1_;have BK138:=n2_;have HB:=n3_;clear n0_ n1_ n2_ n3_;(try clear hb);(try clear hb2);(try clear hk);(try clear hi);have z14_0 : w13.cell? ⟨gb138,0,none⟩=some (.slice Ao9 y135.length co9):=(bc_ BK138.out 0).trans rfl;have z14_1 : w13.cell? ⟨gb138,1,none⟩=some (.slice none 0 0):=(bc_ BK138.out 1).trans rfl;have y14_0:=bf_ BK138.out 0;have y14_1:=bf_ BK138.out 1;have z15_0 : w13.cell? ⟨gb134,0,none⟩=some (.slice none 0 0):=(bc_ BK134.out 0).trans rfl;have z15_1 : w13.cell? ⟨gb134,1,none⟩=some (.slice none 0 0):=(bc_ BK134.out 1).trans rfl;have y15_0:=bf_ BK134.out 0;have y15_1:=bf_ BK134.out 1))
  refine bodyPost_ret (results_ct rfl _ _ gb134 27 #[.slice Ao9 y135.length co9,.slice none 0 0] (0,0) _ rfl (by refine kk_ ?_;refine blk_put (cs:=#[.slice Ao9 y135.length co9,.slice none 0 0]) ?_ 1 _ rfl;refine kk_ ?_;refine blk_put (cs:=#[.slice none 0 0,.slice none 0 0]) ?_ 0 _ rfl;exact kk_ BK134.out) Try.underlying27 rfl (by kernel_rfl)) rfl ?_
  exact ⟨_,_,by first|rfl|(simp [errW_none,errW_some] <;> rfl)|(simp [*,errW_none,errW_some] <;> rfl),by (with_reducible repeat (first|apply ra_|apply rn_|apply re_));exact Kd.R_mono (rf_ (p:=⟨gb134,1,none⟩) (rf_ (p:=⟨gb134,0,none⟩) (Kd.R_types HO137.out BK134.out (by decide)) (fun _ hk=>hk.2) (.slice Ao9 y135.length co9)) (fun _ hk=>hk.2) (.slice none 0 0)) (fun _ hk=>hk.1.1),by first|exact Kd.S_nil _ _ _ _ _|exact Kd.N_nil _ _ _ _ _|exact Kd.V_nil _ _ _ _ _|exact Kd.Q_nil _ _ _ _ _|exact Kd.R_nil _ _ _ _ _,hb2_ HB.out GE134.out GE138.out⟩
 replace c5:=Bool.eq_false_iff.mpr c5
 subst c5
 have H1 : ((tally_Open.f k l0).bind fun bt140=>(leaf_Decode.j0 k bt140.1 bt140.2 (bt140.2 != 0) y135))=some (r1,r2,r3):=by rw [if_neg (show ¬ (false=true) by decide)] at H;exact H
 clear H;have H:=H1;clear H1;replace H:=Option.bind_eq_some_iff.mp H;obtain ⟨⟨t140,t141⟩,A160,H⟩:=H;replace H : (leaf_Decode.j0 k t140 t141 (t141 != 0) y135)=some (r1,r2,r3):=H;have A16:=A_ A160;clear A160;have HC17:=A_ H;clear H;go_enter Try.func9,Try.ntmps9
 go_upto_region 7 with (first|((with_reducible refine gate_dst (N:=2) rfl ?_);refine box_event ?hg (N:=2) ?hd (cs:=#[.slice none 0 0,.slice none 0 0]) (t:=27) ?hr ?_;(case hd=>rfl);(case hg=>rfl);(case hr=>first|(go_simp;done)|(go_simp;rfl));intro gb134 hg w18 hbox hb;have n0_:=A_ (bp_ (hb0_ HB.out) hb);have n1_:=A_ (hbox);have n2_:=A_ ((by rw [hg];exact (bz_ (hb0_ HB.out)) : w.heap.size≤gb134));have n3_:=n2_;clear HB;have HB:=n0_;have BK134:=n1_;have GW134:=n2_;have GE134:=n3_;clear n0_ n1_ n2_ n3_;clear hb hbox hg)|((with_reducible refine gate_dst (N:=15) rfl ?_);refine Kd.R_make (Kd.int .i64) _ 3 rfl (N:=15) rfl 24 _ _ rfl 4 rfl rfl Try.underlying24 (.int .i64 0) 8 info3 rfl (by decide) (by omega) 0 (ok:=fun _=>True) (okp:=fun _=>True) rfl (fun _ hk=>hk) trivial (by omega) (by omega) (Below.refl _ _) (Nat.le_refl _) ?_;intro v136 w19 ho20 hb hg_ hnew_;clear hg_ hnew_;(first|rw [← Ny135.out] at ho20|(simp only [Int.reduceToNat] at ho20;rw [← Ny135.out] at ho20));have n0_:=A_ (Kd.R_lower (Kd.R_newM (M:=fun k_=>(w.heap.size≤k_)) ho20 (bz_ (hb1_ HB.out GE134.out)) (fun k_ h_=>h_)) (bz_ (hb1_ HB.out GE134.out)));have n1_:=A_ (bx_ BK134.out kf_ hb);have n2_:=A_ (bp_ (hb1_ HB.out GE134.out) hb);clear BK134;clear HB;have HO137:=n0_;have BK134:=n1_;have HB:=n2_;clear n0_ n1_ n2_;clear hb ho20;obtain ⟨Ao21,co21,eo21⟩:=Kd.R_slice HO137.out;subst eo21)|((with_reducible refine gate_dst (N:=4) rfl ?_);refine box_event ?hg (N:=4) ?hd (cs:=#[.slice none 0 0,.slice none 0 0]) (t:=27) ?hr ?_;(case hd=>rfl);(case hg=>rfl);(case hr=>first|(go_simp;done)|(go_simp;rfl));intro gb138 hg w22 hbox hb;have n0_:=A_ (Kd.R_below (by (with_reducible repeat (first|apply ra_|apply rn_|apply re_));exact HO137.out) hb);have n1_:=A_ (bx_ BK134.out kf_ hb);have n2_:=A_ (bp_ (hb1_ HB.out GE134.out) hb);have n3_:=A_ (hbox);have n4_:=A_ ((by rw [hg];exact (bz_ (hb1_ HB.out GE134.out)) : w.heap.size≤gb138));have n5_:=n4_;have n6_:=A_ ((by rw [hg];exact Nat.ne_of_lt (bl_ BK134.out kf_) : gb134≠gb138));have n7_:=A_ (Ne.symm n6_.out);clear HO137;clear BK134;clear HB;have HO137:=n0_;have BK134:=n1_;have HB:=n2_;have BK138:=n3_;have GW138:=n4_;have GE138:=n5_;have NB134_138:=n6_;have NB138_134:=n7_;clear n0_ n1_ n2_ n3_ n4_ n5_ n6_ n7_;clear hb hbox hg;have hnb23:=NB138_134.out;have hnc23:=NB134_138.out;have z24_0 : w22.cell? ⟨gb138,0,none⟩=some (.slice none 0 0):=(bc_ BK138.out 0).trans rfl;have z24_1 : w22.cell? ⟨gb138,1,none⟩=some (.slice none 0 0):=(bc_ BK138.out 1).trans rfl;have y24_0:=bf_ BK138.out 0;have y24_1:=bf_ BK138.out 1)|((with_reducible refine gate_callee (f:=25) rfl ?_);refine goesL_ (some 24) rfl rfl Try.func25 (by kernel_rfl) rfl #[.slice A0 l0.length c0] rfl (by (try simp only [List.map_toArray,List.map_cons,List.map_nil]);first|done|rfl|(simp only [List.length_drop,List.length_take];rfl)) ?_;(with_reducible refine (leaf_nought.calls _ _ l0 false _ ?side1 ?side2 A4.out).mono ?_);(case side1=>exact Kd.C_below HR0.out (hb2_ HB.out GE134.out GE138.out));(case side2=>exact HC0.out);rintro e w25 ⟨rfl,hb⟩;refine ⟨_,rfl,?_⟩;have n0_:=A_ (Kd.R_below (by (with_reducible repeat (first|apply ra_|apply rn_|apply re_));exact (Kd.R_mono (rf_ (p:=⟨gb138,1,none⟩) (rf_ (p:=⟨gb138,0,none⟩) (Kd.R_types HO137.out BK138.out (by decide)) (fun _ hk=>hk.2) (.slice Ao21 y135.length co21)) (fun _ hk=>hk.2) (.slice none 0 0)) (fun _ h_=>h_.1))) hb);have n1_:=A_ (bb_ (g:=gb134) (o:=.cells #[.slice none 0 0,.slice none 0 0] 27 (0,0)) (by refine kk_ ?_;refine blk_far ?_ NB134_138.out _;refine kk_ ?_;refine blk_far ?_ NB134_138.out _;exact kk_ BK134.out) hb);have n2_:=A_ (bb_ (g:=gb138) (o:=.cells #[.slice Ao21 y135.length co21,.slice none 0 0] 27 (0,0)) (by refine kk_ ?_;refine blk_put (cs:=#[.slice Ao21 y135.length co21,.slice none 0 0]) ?_ 1 _ rfl;refine kk_ ?_;refine blk_put (cs:=#[.slice none 0 0,.slice none 0 0]) ?_ 0 _ rfl;exact kk_ BK138.out) hb);have n3_:=A_ (bp_ (hb2_ HB.out GE134.out GE138.out) hb);clear HO137;clear BK134;clear BK138;clear HB;have HO137:=n0_;have BK134:=n1_;have BK138:=n2_;have HB:=n3_;clear n0_ n1_ n2_ n3_;(try clear hb);(try clear hb2);(try clear hk);(try clear hi))|((with_reducible refine gate_callee (f:=26) rfl ?_);refine goesL_ (some 28) rfl rfl Try.func26 (by kernel_rfl) rfl #[.slice A0 l0.length c0] rfl (by (try simp only [List.map_toArray,List.map_cons,List.map_nil]);first|done|rfl|(simp only [List.length_drop,List.length_take];rfl)) ?_;(with_reducible refine (tally_Open.calls k _ _ l0 t140 t141 _ ?side1 ?side2 A16.out).mono ?_);(case side1=>repeat (first|exact (Kd.C_below HR0.out HB.out)|(with_reducible refine Kd.C_alloc ?_ _)|(with_reducible refine Kd.C_drewN ?_ _)|(with_reducible refine Kd.C_drew ?_)));(case side2=>exact HC0.out);rintro e w26 ⟨v142,rfl,ho0,hb⟩;refine ⟨_,rfl,?_⟩;have n0_:=A_ (Kd.R_below (by (with_reducible repeat (first|apply ra_|apply rn_|apply re_));exact HO137.out) hb);have n1_:=A_ (Kd.Q_lower (Kd.Q_newM (M:=fun k_=>(w.heap.size≤k_)) ho0 (bz_ (hb2_ HB.out GE134.out GE138.out)) (fun k_ h_=>h_)) (bz_ (hb2_ HB.out GE134.out GE138.out)));have n2_:=A_ (bx_ BK134.out kf_ hb);have n3_:=A_ (bx_ BK138.out kf_ hb);have n4_:=A_ (bp_ (hb2_ HB.out GE134.out GE138.out) hb);clear HO137;clear BK134;clear BK138;clear HB;have HO137:=n0_;have HO143:=n1_;have BK134:=n2_;have BK138:=n3_;have HB:=n4_;clear n0_ n1_ n2_ n3_ n4_;(try clear hb);(try clear hb2);(try clear hk);(try clear hi);(try clear ho0)))
 (try simp only [Act.put,u1_,u2_,u3_])
 go_cut [32] (fun v32 wc=>∃ (kq : Nat) (x32_16 : Bool),v32=.bool x32_16∧Aside0 (leaf_Decode.j0 kq t140 t141 x32_16 y135=some (r1,r2,r3))∧Aside0 (kq≤k)∧Aside0 (Kd.Q (Kd.int .u8) 5 wc w.heap.size (fun k_=>(w.heap.size≤k_)) v142 t140)∧Aside0 (Kd.R (Kd.int .i64) 3 wc w.heap.size (fun k_=>(w.heap.size≤k_)) (.slice Ao21 y135.length co21) y135)∧Aside0 (wc.heap[gb134]?=some (.cells #[(.slice none 0 0),(.slice none 0 0)] 27 (0,0)))∧Aside0 (wc.heap[gb138]?=some (.cells #[(.slice Ao21 y135.length co21),(.slice none 0 0)] 27 (0,0)))∧Aside0 (Below w.heap.size w wc))
 case first =>
  have H:=HC17.out;clear HC17;have H':=A_ H;clear H;go_wp2;go_meet
  case rel=>exact ⟨_,((t141 != 0)),(by first|rfl|(simp;done)|(simp [*];done)),H',⟨by first|omega|exact Nat.le_refl _⟩,⟨by (with_reducible repeat (first|apply Kd.Q_alloc|apply Kd.Q_drewN|apply Kd.Q_drew));exact Kd.Q_mono HO143.out (fun _ hk=>hk.1)⟩,⟨by (with_reducible repeat (first|apply ra_|apply rn_|apply re_));exact Kd.R_mono HO137.out (fun _ hk=>hk.1)⟩,⟨by exact kk_ BK134.out⟩,⟨by exact kk_ BK138.out⟩,⟨hb2_ HB.out GE134.out GE138.out⟩⟩
 case rest =>
  clear HC17;(try clear c1);(try clear c2);(try clear c2b0);(try clear c2b1);(try clear p2);(try clear c3);(try clear c3b0);(try clear c3b1);(try clear c5);(try clear c9);(try clear c11);(try clear c23);(try clear c25);(try clear c26);(try clear z12_0 z12_1 z14_0 z14_1 z15_0 z15_1 z24_0 z24_1 y12_0 y12_1 y14_0 y14_1 y15_0 y15_1 y24_0 y24_1);obtain ⟨kq,x32_16,rfl,HA,HJ16,HO_5,HO_139000,BK134,BK138,HB⟩:=hcut
  cases kq with
  | zero=>exact absurd HA.out (by simp [leaf_Decode.j0])
  | succ kj16 =>
   have H:=HA.out;clear HA
   simp only [leaf_Decode.j0] at H
   by_cases c27 : x32_16=true
   ·subst c27
    have H1 : (some (([] : List Int),([] : List (List Int)),t141))=some (r1,r2,r3):=by rw [if_pos rfl] at H;exact H
    clear H;have H:=H1;clear H1
    simp only [Option.some.injEq,Prod.mk.injEq] at H
    obtain ⟨rfl,rfl,rfl⟩:=H;have hnb28:=NB134_138.out;have hnc28:=NB138_134.out;have z29_0 : wc.cell? ⟨gb134,0,none⟩=some (.slice none 0 0):=(bc_ BK134.out 0).trans rfl;have z29_1 : wc.cell? ⟨gb134,1,none⟩=some (.slice none 0 0):=(bc_ BK134.out 1).trans rfl;have y29_0:=bf_ BK134.out 0;have y29_1:=bf_ BK134.out 1;go_wp2
    refine bodyPost_ret (results_ct rfl _ _ gb134 27 #[.slice none 0 0,.slice none 0 0] (0,0) _ rfl (by refine kk_ ?_;refine blk_put (cs:=#[.slice none 0 0,.slice none 0 0]) ?_ 1 _ rfl;refine kk_ ?_;refine blk_put (cs:=#[.slice none 0 0,.slice none 0 0]) ?_ 0 _ rfl;exact kk_ BK134.out) Try.underlying27 rfl (by kernel_rfl)) rfl ?_
    exact ⟨_,_,by first|rfl|(simp [errW_none,errW_some] <;> rfl)|(simp [*,errW_none,errW_some] <;> rfl),by first|exact Kd.R_nil _ _ _ _ _|exact Kd.N_nil _ _ _ _ _|exact Kd.V_nil _ _ _ _ _|exact Kd.Q_nil _ _ _ _ _|exact Kd.S_nil _ _ _ _ _,by first|exact Kd.S_nil _ _ _ _ _|exact Kd.N_nil _ _ _ _ _|exact Kd.V_nil _ _ _ _ _|exact Kd.Q_nil _ _ _ _ _|exact Kd.R_nil _ _ _ _ _,hb2_ HB.out GE134.out GE138.out⟩
   replace c27:=Bool.eq_false_iff.mpr c27
   subst c27
   have H1 : ((some (([1] : List Int) : List Int)).bind fun y144=>((slices_Repeat_int_int.f (([3] : List Int)) 4).bind fun t150=>(if y144.length + t150.length<17592186044416 then ((some (y144++t150 : List Int)).bind fun y153=>(if y153.length<17592186044416 then ((pack_Take.f t140 (y153++[1])).bind fun bt159=>(if bt159.2.2=0 then (if 0<(bt159.1.length : Int) then (leaf_Decode.j1 kj16 t140 bt159.1 bt159.2.1 (((rd_T56 bt159.1 0).f1) != 76) y135) else (none)) else (leaf_Decode.j1 kj16 t140 bt159.1 bt159.2.1 true y135))) else (none))) else (none))))=some (r1,r2,r3):=by rw [if_neg (show ¬ (false=true) by decide)] at H;exact H
   clear H;have H:=H1;clear H1
   obtain ⟨y144,hy144⟩ : ∃ y_ : List Int,y_=(([1] : List Int)):=⟨_,rfl⟩
   replace H : ((slices_Repeat_int_int.f (([3] : List Int)) 4).bind fun t150=>(if y144.length + t150.length<17592186044416 then ((some (y144++t150 : List Int)).bind fun y153=>(if y153.length<17592186044416 then ((pack_Take.f t140 (y153++[1])).bind fun bt159=>(if bt159.2.2=0 then (if 0<(bt159.1.length : Int) then (leaf_Decode.j1 kj16 t140 bt159.1 bt159.2.1 (((rd_T56 bt159.1 0).f1) != 76) y135) else (none)) else (leaf_Decode.j1 kj16 t140 bt159.1 bt159.2.1 true y135))) else (none))) else (none)))=some (r1,r2,r3):=by first|(rw [hy144];with_reducible exact H)|(have H2_:=(Option.bind_some _ _).symm.trans H;rw [hy144];with_reducible exact H2_)|(have H2_:=(Option.bind_some _ _).symm.trans H;with_reducible exact H2_)|with_reducible exact H|(rw [hy144];exact H)|exact H
   have Ny144:=A_ hy144;clear hy144
   obtain ⟨y147,hy147⟩ : ∃ y_ : List Int,y_=(([3] : List Int)):=⟨_,rfl⟩
   replace H : ((slices_Repeat_int_int.f y147 4).bind fun t150=>(if y144.length + t150.length<17592186044416 then ((some (y144++t150 : List Int)).bind fun y153=>(if y153.length<17592186044416 then ((pack_Take.f t140 (y153++[1])).bind fun bt159=>(if bt159.2.2=0 then (if 0<(bt159.1.length : Int) then (leaf_Decode.j1 kj16 t140 bt159.1 bt159.2.1 (((rd_T56 bt159.1 0).f1) != 76) y135) else (none)) else (leaf_Decode.j1 kj16 t140 bt159.1 bt159.2.1 true y135))) else (none))) else (none)))=some (r1,r2,r3):=by first|(rw [hy147];with_reducible exact H)|(have H2_:=(Option.bind_some _ _).symm.trans H;rw [hy147];with_reducible exact H2_)|(have H2_:=(Option.bind_some _ _).symm.trans H;with_reducible exact H2_)|with_reducible exact H|(rw [hy147];exact H)|exact H
   have Ny147:=A_ hy147;clear hy147;replace H:=Option.bind_eq_some_iff.mp H;obtain ⟨t150,A300,H⟩:=H
   replace H : (if y144.length + t150.length<17592186044416 then ((some (y144++t150 : List Int)).bind fun y153=>(if y153.length<17592186044416 then ((pack_Take.f t140 (y153++[1])).bind fun bt159=>(if bt159.2.2=0 then (if 0<(bt159.1.length : Int) then (leaf_Decode.j1 kj16 t140 bt159.1 bt159.2.1 (((rd_T56 bt159.1 0).f1) != 76) y135) else (none)) else (leaf_Decode.j1 kj16 t140 bt159.1 bt159.2.1 true y135))) else (none))) else (none))=some (r1,r2,r3):=H
   have A30:=A_ A300;clear A300
   by_cases c31 : y144.length + t150.length<17592186044416
   rotate_left
   ·rw [if_neg c31] at H
    exact absurd H (by simp)
   rw [if_pos c31] at H
   have LMc31:=A_ c31;clear c31
   obtain ⟨y153,hy153⟩ : ∃ y_ : List Int,y_=(y144++t150):=⟨_,rfl⟩
   replace H : (if y153.length<17592186044416 then ((pack_Take.f t140 (y153++[1])).bind fun bt159=>(if bt159.2.2=0 then (if 0<(bt159.1.length : Int) then (leaf_Decode.j1 kj16 t140 bt159.1 bt159.2.1 (((rd_T56 bt159.1 0).f1) != 76) y135) else (none)) else (leaf_Decode.j1 kj16 t140 bt159.1 bt159.2.1 true y135))) else (none))=some (r1,r2,r3):=by first|(rw [hy153];with_reducible exact H)|(have H2_:=(Option.bind_some _ _).symm.trans H;rw [hy153];with_reducible exact H2_)|(have H2_:=(Option.bind_some _ _).symm.trans H;with_reducible exact H2_)|with_reducible exact H|(rw [hy153];exact H)|exact H
   have Ny153:=A_ hy153;clear hy153
   by_cases c32 : y153.length<17592186044416
   rotate_left
   ·rw [if_neg c32] at H
    exact absurd H (by simp)
   rw [if_pos c32] at H
   have LMc32:=A_ c32;clear c32
   obtain ⟨y156,hy156⟩ : ∃ y_ : List Int,y_=(y153++[1]):=⟨_,rfl⟩
   replace H : ((pack_Take.f t140 y156).bind fun bt159=>(if bt159.2.2=0 then (if 0<(bt159.1.length : Int) then (leaf_Decode.j1 kj16 t140 bt159.1 bt159.2.1 (((rd_T56 bt159.1 0).f1) != 76) y135) else (none)) else (leaf_Decode.j1 kj16 t140 bt159.1 bt159.2.1 true y135)))=some (r1,r2,r3):=by first|(rw [hy156];with_reducible exact H)|(have H2_:=(Option.bind_some _ _).symm.trans H;rw [hy156];with_reducible exact H2_)|(have H2_:=(Option.bind_some _ _).symm.trans H;with_reducible exact H2_)|with_reducible exact H|(rw [hy156];exact H)|exact H
   have Ny156:=A_ hy156;clear hy156;replace H:=Option.bind_eq_some_iff.mp H;obtain ⟨⟨t159,t160,t161⟩,A330,H⟩:=H
   replace H : (if t161=0 then (if 0<(t159.length : Int) then (leaf_Decode.j1 kj16 t140 t159 t160 (((rd_T56 t159 0).f1) != 76) y135) else (none)) else (leaf_Decode.j1 kj16 t140 t159 t160 true y135))=some (r1,r2,r3):=H
   have A33:=A_ A330;clear A330;have HC34:=A_ H;clear H
   go_upto_region 11 with (first|((with_reducible refine gate_dst (N:=35) rfl ?_);refine Kd.R_lit (Kd.int .i64) _ 3 ?hg (N:=35) ?hd (xs:=([1] : List Int)) (inner:=[.int .i64 1]) (ok:=fun _=>True) (okp:=fun _=>True) ?hr ?hp (fun _ hk=>hk) trivial (Below.refl _ _) (Nat.le_refl _) (by simp) ?_;(case hd=>rfl);(case hg=>rfl);(case hr=>first|(go_simp;done)|(go_simp;rfl));(case hp=>exact (Reps.one (show Kd.M (Kd.int .i64) _ _ _ 1 [.int .i64 1] from rfl) (Reps.none _ _)));intro v145 w35 ho36 hb hg_ hnew_;clear hg_ hnew_;(first|rw [← Ny144.out] at ho36|(simp only [Int.reduceToNat] at ho36;rw [← Ny144.out] at ho36));have n0_:=A_ (Kd.Q_below (by (with_reducible repeat (first|apply Kd.Q_alloc|apply Kd.Q_drewN|apply Kd.Q_drew));exact HO_5.out) hb);have n1_:=A_ (Kd.R_elder' (by (with_reducible repeat (first|apply ra_|apply rn_|apply re_));exact HO_139000.out) (Kd.R_base ho36) hb);have n2_:=A_ (Kd.R_lower (Kd.R_new' (Kd.R_newM (M:=fun k_=>(w.heap.size≤k_)) ho36 (bz_ (hb2_ HB.out GE134.out GE138.out)) (fun k_ h_=>h_)) (Kd.R_lt (by (with_reducible repeat (first|apply ra_|apply rn_|apply re_));exact HO_139000.out))) (bz_ (hb2_ HB.out GE134.out GE138.out)));have n3_:=A_ (bx_ BK134.out kf_ hb);have n4_:=A_ (bx_ BK138.out kf_ hb);have n5_:=A_ (bp_ (hb2_ HB.out GE134.out GE138.out) hb);clear HO_5;clear HO_139000;clear BK134;clear BK138;clear HB;have HO_5:=n0_;have HO_139000:=n1_;have HO146:=n2_;have BK134:=n3_;have BK138:=n4_;have HB:=n5_;clear n0_ n1_ n2_ n3_ n4_ n5_;clear hb ho36)|((with_reducible refine gate_dst (N:=36) rfl ?_);refine Kd.R_lit (Kd.int .i64) _ 3 ?hg (N:=36) ?hd (xs:=([3] : List Int)) (inner:=[.int .i64 3]) (ok:=fun _=>True) (okp:=fun _=>True) ?hr ?hp (fun _ hk=>hk) trivial (Below.refl _ _) (Nat.le_refl _) (by simp) ?_;(case hd=>rfl);(case hg=>rfl);(case hr=>first|(go_simp;done)|(go_simp;rfl));(case hp=>exact (Reps.one (show Kd.M (Kd.int .i64) _ _ _ 3 [.int .i64 3] from rfl) (Reps.none _ _)));intro v148 w37 ho38 hb hg_ hnew_;clear hg_ hnew_;(first|rw [← Ny147.out] at ho38|(simp only [Int.reduceToNat] at ho38;rw [← Ny147.out] at ho38));have n0_:=A_ (Kd.Q_below (by (with_reducible repeat (first|apply Kd.Q_alloc|apply Kd.Q_drewN|apply Kd.Q_drew));exact HO_5.out) hb);have n1_:=A_ (Kd.R_elder' (by (with_reducible repeat (first|apply ra_|apply rn_|apply re_));exact HO_139000.out) (Kd.R_base ho38) hb);have n2_:=A_ (Kd.R_elder' (by (with_reducible repeat (first|apply ra_|apply rn_|apply re_));exact HO146.out) (Kd.R_base ho38) hb);have n3_:=A_ (Kd.R_lower (Kd.R_new' (Kd.R_new' (Kd.R_newM (M:=fun k_=>(w.heap.size≤k_)) ho38 (bz_ (hb2_ HB.out GE134.out GE138.out)) (fun k_ h_=>h_)) (Kd.R_lt (by (with_reducible repeat (first|apply ra_|apply rn_|apply re_));exact HO_139000.out))) (Kd.R_lt (by (with_reducible repeat (first|apply ra_|apply rn_|apply re_));exact HO146.out))) (bz_ (hb2_ HB.out GE134.out GE138.out)));have n4_:=A_ (bx_ BK134.out kf_ hb);have n5_:=A_ (bx_ BK138.out kf_ hb);have n6_:=A_ (bp_ (hb2_ HB.out GE134.out GE138.out) hb);clear HO_5;clear HO_139000;clear HO146;clear BK134;clear BK138;clear HB;have HO_5:=n0_;have HO_139000:=n1_;have HO146:=n2_;have HO149:=n3_;have BK134:=n4_;have BK138:=n5_;have HB:=n6_;clear n0_ n1_ n2_ n3_ n4_ n5_ n6_;clear hb ho38;obtain ⟨Ao39,co39,eo39⟩:=Kd.R_slice HO149.out;subst eo39)|((with_reducible refine gate_callee (f:=27) rfl ?_);refine goesL_ (some 37) rfl rfl Try.func27 (by kernel_rfl) rfl #[.slice Ao39 y147.length co39,.int .i64 4] rfl (by (try simp only [List.map_toArray,List.map_cons,List.map_nil]);first|done|rfl|(simp only [List.length_drop,List.length_take];rfl)) ?_;(with_reducible refine (slices_Repeat_int_int.calls _ _ y147 4 t150 _ ?side1 ?side2 A30.out).mono ?_);(case side1=>repeat (first|exact (Kd.R_reads' HO149.out).2.2|(with_reducible refine Kd.C_alloc ?_ _)|(with_reducible refine Kd.C_drewN ?_ _)|(with_reducible refine Kd.C_drew ?_)));(case side2=>exact (Kd.R_reads' HO149.out).2.1);rintro e w40 ⟨v151,rfl,ho0,hb⟩;refine ⟨_,rfl,?_⟩;have n0_:=A_ (Kd.Q_below (by (with_reducible repeat (first|apply Kd.Q_alloc|apply Kd.Q_drewN|apply Kd.Q_drew));exact HO_5.out) hb);have n1_:=A_ (Kd.R_elder' (by (with_reducible repeat (first|apply ra_|apply rn_|apply re_));exact HO_139000.out) (Kd.R_base ho0) hb);have n2_:=A_ (Kd.R_elder' (by (with_reducible repeat (first|apply ra_|apply rn_|apply re_));exact HO146.out) (Kd.R_base ho0) hb);have n3_:=A_ (Kd.R_elder' (by (with_reducible repeat (first|apply ra_|apply rn_|apply re_));exact HO149.out) (Kd.R_base ho0) hb);have n4_:=A_ (Kd.R_lower (Kd.R_new' (Kd.R_new' (Kd.R_new' (Kd.R_newM (M:=fun k_=>(w.heap.size≤k_)) ho0 (bz_ (hb2_ HB.out GE134.out GE138.out)) (fun k_ h_=>h_)) (Kd.R_lt (by (with_reducible repeat (first|apply ra_|apply rn_|apply re_));exact HO_139000.out))) (Kd.R_lt (by (with_reducible repeat (first|apply ra_|apply rn_|apply re_));exact HO146.out))) (Kd.R_lt (by (with_reducible repeat (first|apply ra_|apply rn_|apply re_));exact HO149.out))) (bz_ (hb2_ HB.out GE134.out GE138.out)));have n5_:=A_ (bx_ BK134.out kf_ hb);have n6_:=A_ (bx_ BK138.out kf_ hb);have n7_:=A_ (bp_ (hb2_ HB.out GE134.out GE138.out) hb);clear HO_5;clear HO_139000;clear HO146;clear HO149;clear BK134;clear BK138;clear HB;have HO_5:=n0_;have HO_139000:=n1_;have HO146:=n2_;have HO149:=n3_;have HO152:=n4_;have BK134:=n5_;have BK138:=n6_;have HB:=n7_;clear n0_ n1_ n2_ n3_ n4_ n5_ n6_ n7_;(try clear hb);(try clear hb2);(try clear hk);(try clear hi);(try clear ho0);obtain ⟨Ao42,co42,eo42⟩:=Kd.R_slice HO152.out;subst eo42)|((with_reducible refine gate_builtin (b:=.append) (xs:=#[.tmp 35,.tmp 37]) rfl ?_);at_builtin;refine Kd.R_append_rows (Kd.int .i64) (w0:=w) w.heap.size rfl (.tmp 35) (.tmp 37) 24 3 (.int .i64 0) 8 rfl Try.underlying24 info3 rfl (by decide) (by omega) v145 y144 t150 _ _ _ (fun k_=>(w.heap.size≤k_)∧some k_≠(.slice Ao21 y135.length co21 : Value).ownBlock∧some k_≠(.slice Ao39 y147.length co39 : Value).ownBlock∧some k_≠(.slice Ao42 t150.length co42 : Value).ownBlock) (fun _=>False) rfl rfl ?aO ?aR (fun _ _ h=>h) (fun _ h=>h.elim) ?aF ?aB ?aS ?aL ?_;(case aR=>repeat (first|exact (Kd.R_reads' HO152.out).2.2|(with_reducible refine Kd.C_alloc ?_ _)|(with_reducible refine Kd.C_drewN ?_ _)|(with_reducible refine Kd.C_drew ?_)));(case aB=>exact (hb2_ HB.out GE134.out GE138.out));(case aF=>exact (fun k_ hk=>⟨(Nat.le_trans (bz_ (hb2_ HB.out GE134.out GE138.out)) hk),Kd.fresh' (Kd.R_lt (by (with_reducible repeat (first|apply ra_|apply rn_|apply re_));exact HO_139000.out)) k_ hk,Kd.fresh' (Kd.R_lt (by (with_reducible repeat (first|apply ra_|apply rn_|apply re_));exact HO149.out)) k_ hk,Kd.fresh' (Kd.R_lt (by (with_reducible repeat (first|apply ra_|apply rn_|apply re_));exact HO152.out)) k_ hk⟩));(case aO=>exact (by (with_reducible repeat (first|apply ra_|apply rn_|apply re_));exact Kd.R_mono HO146.out (fun _ hk=>⟨hk.1.1.1.1,⟨hk.1.1.2,⟨hk.1.2,hk.2⟩⟩⟩)));(case aS=>exact (bz_ (hb2_ HB.out GE134.out GE138.out)));(case aL=>have:=LMc31.out;omega);intro v154 w41 ho hb hg hat;rw [← Ny153.out] at ho;have n0_:=A_ (Kd.Q_over' (by (with_reducible repeat (first|apply Kd.Q_alloc|apply Kd.Q_drewN|apply Kd.Q_drew));exact HO_5.out) (Kd.R_typed (by (with_reducible repeat (first|apply ra_|apply rn_|apply re_));exact HO146.out)) (by decide) hg);have n1_:=A_ (Kd.R_after (ok:=(fun k_=>(w.heap.size≤k_)∧some k_≠(.slice Ao39 y147.length co39 : Value).ownBlock∧some k_≠(.slice Ao42 t150.length co42 : Value).ownBlock)) (by (with_reducible repeat (first|apply ra_|apply rn_|apply re_));exact Kd.R_mono HO_139000.out (fun _ hk=>⟨⟨hk.1.1.1,⟨hk.1.2,hk.2⟩⟩,hk.1.1.2⟩)) hg hat);have n2_:=A_ (blk_grown (g:=gb134) (o:=.cells #[.slice none 0 0,.slice none 0 0] 27 (0,0)) (by exact kk_ BK134.out) hg (Kd.R_ne HO146.out BK134.out (by decide)));have n3_:=A_ (blk_grown (g:=gb138) (o:=.cells #[.slice Ao21 y135.length co21,.slice none 0 0] 27 (0,0)) (by exact kk_ BK138.out) hg (Kd.R_ne HO146.out BK138.out (by decide)));have n4_:=A_ (Kd.R_after (ok:=(fun k_=>(w.heap.size≤k_)∧some k_≠(.slice Ao21 y135.length co21 : Value).ownBlock∧some k_≠(.slice Ao42 t150.length co42 : Value).ownBlock)) (by (with_reducible repeat (first|apply ra_|apply rn_|apply re_));exact Kd.R_mono HO149.out (fun _ hk=>⟨⟨hk.1.1.1.1,⟨hk.1.1.2,hk.2⟩⟩,hk.1.2⟩)) hg hat);have n5_:=A_ (Kd.R_after (ok:=(fun k_=>(w.heap.size≤k_)∧some k_≠(.slice Ao21 y135.length co21 : Value).ownBlock∧some k_≠(.slice Ao39 y147.length co39 : Value).ownBlock)) (by (with_reducible repeat (first|apply ra_|apply rn_|apply re_));exact Kd.R_mono HO152.out (fun _ hk=>⟨⟨hk.1.1.1.1,⟨hk.1.1.2,hk.2⟩⟩,hk.1.2⟩)) hg hat);have n6_:=A_ (hb);have n7_:=A_ (ho);clear HO_5;clear HO_139000;clear BK134;clear BK138;clear HO149;clear HO152;clear HB;clear HO146;have HO_5:=n0_;have HO_139000:=n1_;have BK134:=n2_;have BK138:=n3_;have HO149:=n4_;have HO152:=n5_;have HB:=n6_;have HO155:=n7_;clear n0_ n1_ n2_ n3_ n4_ n5_ n6_ n7_;clear ho hb hg hat)|((with_reducible refine gate_builtin (b:=.append) (xs:=#[.tmp 41,.tmp 42]) rfl ?_);at_builtin;refine Kd.R_append (Kd.int .i64) (w0:=w) w.heap.size rfl (.tmp 41) (.tmp 42) 24 3 (.int .i64 0) 8 rfl Try.underlying24 info3 rfl (by decide) (by omega) v154 y153 1 [.int .i64 1] (fun k_=>(w.heap.size≤k_)∧some k_≠(.slice Ao21 y135.length co21 : Value).ownBlock∧some k_≠(.slice Ao39 y147.length co39 : Value).ownBlock∧some k_≠(.slice Ao42 t150.length co42 : Value).ownBlock) (fun _=>False) rfl rfl ?aP (fun _ hk=>hk.elim) ?aF ?aO ?aB ?aS ?aL ?_;(case aP=>exact rfl);(case aB=>exact (hb2_ HB.out GE134.out GE138.out));(case aF=>exact (fun k_ hk=>⟨(Nat.le_trans (bz_ (hb2_ HB.out GE134.out GE138.out)) hk),Kd.fresh' (Kd.R_lt (by (with_reducible repeat (first|apply ra_|apply rn_|apply re_));exact HO_139000.out)) k_ hk,Kd.fresh' (Kd.R_lt (by (with_reducible repeat (first|apply ra_|apply rn_|apply re_));exact HO149.out)) k_ hk,Kd.fresh' (Kd.R_lt (by (with_reducible repeat (first|apply ra_|apply rn_|apply re_));exact HO152.out)) k_ hk⟩));(case aO=>exact (by (with_reducible repeat (first|apply ra_|apply rn_|apply re_));exact HO155.out));(case aS=>exact (bz_ (hb2_ HB.out GE134.out GE138.out)));(case aL=>have:=LMc32.out;omega);intro v157 w43 ho hb hg hat;rw [← Ny156.out] at ho;have n0_:=A_ (Kd.Q_over' (by (with_reducible repeat (first|apply Kd.Q_alloc|apply Kd.Q_drewN|apply Kd.Q_drew));exact HO_5.out) (Kd.R_typed (by (with_reducible repeat (first|apply ra_|apply rn_|apply re_));exact HO155.out)) (by decide) hg);have n1_:=A_ (Kd.R_after (ok:=(fun k_=>(w.heap.size≤k_)∧some k_≠(.slice Ao39 y147.length co39 : Value).ownBlock∧some k_≠(.slice Ao42 t150.length co42 : Value).ownBlock)) (by (with_reducible repeat (first|apply ra_|apply rn_|apply re_));exact HO_139000.out) hg hat);have n2_:=A_ (blk_grown (g:=gb134) (o:=.cells #[.slice none 0 0,.slice none 0 0] 27 (0,0)) (by exact kk_ BK134.out) hg (Kd.R_ne HO155.out BK134.out (by decide)));have n3_:=A_ (blk_grown (g:=gb138) (o:=.cells #[.slice Ao21 y135.length co21,.slice none 0 0] 27 (0,0)) (by exact kk_ BK138.out) hg (Kd.R_ne HO155.out BK138.out (by decide)));have n4_:=A_ (Kd.R_after (ok:=(fun k_=>(w.heap.size≤k_)∧some k_≠(.slice Ao21 y135.length co21 : Value).ownBlock∧some k_≠(.slice Ao42 t150.length co42 : Value).ownBlock)) (by (with_reducible repeat (first|apply ra_|apply rn_|apply re_));exact HO149.out) hg hat);have n5_:=A_ (Kd.R_after (ok:=(fun k_=>(w.heap.size≤k_)∧some k_≠(.slice Ao21 y135.length co21 : Value).ownBlock∧some k_≠(.slice Ao39 y147.length co39 : Value).ownBlock)) (by (with_reducible repeat (first|apply ra_|apply rn_|apply re_));exact HO152.out) hg hat);have n6_:=A_ (hb);have n7_:=A_ (ho);clear HO_5;clear HO_139000;clear BK134;clear BK138;clear HO149;clear HO152;clear HB;clear HO155;have HO_5:=n0_;have HO_139000:=n1_;have BK134:=n2_;have BK138:=n3_;have HO149:=n4_;have HO152:=n5_;have HB:=n6_;have HO158:=n7_;clear n0_ n1_ n2_ n3_ n4_ n5_ n6_ n7_;clear ho hb hg hat;obtain ⟨Ao44,co44,eo44,_⟩:=Kd.Q_slice HO_5.out;subst eo44;obtain ⟨Ao45,co45,eo45⟩:=Kd.R_slice HO158.out;subst eo45)|((with_reducible refine gate_callee (f:=28) rfl ?_);refine goesL_ (some 44) rfl rfl Try.func28 (by kernel_rfl) rfl #[.slice Ao44 t140.length co44,.slice Ao45 y156.length co45] rfl (by (try simp only [List.map_toArray,List.map_cons,List.map_nil]);first|done|rfl|(simp only [List.length_drop,List.length_take];rfl)) ?_;(with_reducible refine (pack_Take.calls _ _ t140 _ _ y156 t159 t160 t161 _ ?side1 ?side2 ?side3 ?side4 A33.out).mono ?_);(case side1=>repeat (first|exact (Kd.Q_reads' HO_5.out).2.2|(with_reducible refine Kd.C_alloc ?_ _)|(with_reducible refine Kd.C_drewN ?_ _)|(with_reducible refine Kd.C_drew ?_)));(case side2=>exact (Kd.Q_reads' HO_5.out).2.1);(case side3=>repeat (first|exact (Kd.R_reads' HO158.out).2.2|(with_reducible refine Kd.C_alloc ?_ _)|(with_reducible refine Kd.C_drewN ?_ _)|(with_reducible refine Kd.C_drew ?_)));(case side4=>exact (Kd.R_reads' HO158.out).2.1);rintro e w46 ⟨v162,rfl,ho0,hb⟩;refine ⟨_,rfl,?_⟩;have n0_:=A_ (Kd.Q_below (by (with_reducible repeat (first|apply Kd.Q_alloc|apply Kd.Q_drewN|apply Kd.Q_drew));exact HO_5.out) hb);have n1_:=A_ (Kd.R_below (by (with_reducible repeat (first|apply ra_|apply rn_|apply re_));exact HO_139000.out) hb);have n2_:=A_ (Kd.R_below (by (with_reducible repeat (first|apply ra_|apply rn_|apply re_));exact HO149.out) hb);have n3_:=A_ (Kd.R_below (by (with_reducible repeat (first|apply ra_|apply rn_|apply re_));exact HO152.out) hb);have n4_:=A_ (Kd.R_below (by (with_reducible repeat (first|apply ra_|apply rn_|apply re_));exact HO158.out) hb);have n5_:=A_ (Kd.R_lower (Kd.R_newM (M:=fun k_=>(w.heap.size≤k_)) ho0 (bz_ (hb2_ HB.out GE134.out GE138.out)) (fun k_ h_=>h_)) (bz_ (hb2_ HB.out GE134.out GE138.out)));have n6_:=A_ (bx_ BK134.out kf_ hb);have n7_:=A_ (bx_ BK138.out kf_ hb);have n8_:=A_ (bp_ (hb2_ HB.out GE134.out GE138.out) hb);clear HO_5;clear HO_139000;clear HO149;clear HO152;clear HO158;clear BK134;clear BK138;clear HB;have HO_5:=n0_;have HO_139000:=n1_;have HO149:=n2_;have HO152:=n3_;have HO158:=n4_;have HO163:=n5_;have BK134:=n6_;have BK138:=n7_;have HB:=n8_;clear n0_ n1_ n2_ n3_ n4_ n5_ n6_ n7_ n8_;(try clear hb);(try clear hb2);(try clear hk);(try clear hi);(try clear ho0)))
   (try simp only [Act.put,u1_,u2_,u3_])
   go_cut [56] (fun v56 wc=>∃ (kq : Nat) (x56_33 : Bool),v56=.bool x56_33∧Aside0 (leaf_Decode.j1 kq t140 t159 t160 x56_33 y135=some (r1,r2,r3))∧Aside0 (kq≤kj16)∧Aside0 (Kd.Q (Kd.int .u8) 5 wc w.heap.size (fun k_=>(w.heap.size≤k_)) (.slice Ao44 t140.length co44) t140)∧Aside0 (Kd.R k56 56 wc w.heap.size (fun k_=>(w.heap.size≤k_)) v162 t159)∧Aside0 (Kd.R (Kd.int .i64) 3 wc w.heap.size (fun k_=>(w.heap.size≤k_)) (.slice Ao21 y135.length co21) y135)∧Aside0 (wc.heap[gb134]?=some (.cells #[(.slice none 0 0),(.slice none 0 0)] 27 (0,0)))∧Aside0 (wc.heap[gb138]?=some (.cells #[(.slice Ao21 y135.length co21),(.slice none 0 0)] 27 (0,0)))∧Aside0 (Below w.heap.size w wc))
   case first =>
    have H:=HC34.out;clear HC34
    by_cases c47 : t161=0
    rotate_left
    ·rw [if_neg c47] at H
     have c47b0 : (t161 == 0)=false:=beq_eq_false_iff_ne.mpr c47;have c47b1 : (t161 != 0)=true:=bne_iff_ne.mpr c47;(first|rw [c47b0]|(simp only [i64_w,i32_w];rw [c47b0])|skip);have H':=A_ H;clear H;go_wp2;go_meet
     case rel=>exact ⟨_,true,rfl,H',⟨by have:=HJ16.out;first|omega|exact Nat.le_refl _⟩,⟨by (with_reducible repeat (first|apply Kd.Q_alloc|apply Kd.Q_drewN|apply Kd.Q_drew));exact HO_5.out⟩,⟨by (with_reducible repeat (first|apply ra_|apply rn_|apply re_));exact Kd.R_mono HO163.out (fun _ hk=>hk.1)⟩,⟨by (with_reducible repeat (first|apply ra_|apply rn_|apply re_));exact Kd.R_mono HO_139000.out (fun _ hk=>hk.1.1)⟩,⟨by exact kk_ BK134.out⟩,⟨by exact kk_ BK138.out⟩,⟨hb2_ HB.out GE134.out GE138.out⟩⟩
    rw [if_pos c47] at H
    have c47b0 : (t161 == 0)=true:=beq_iff_eq.mpr c47;have c47b1 : (t161 != 0)=false:=bne_eq_false_iff_eq.mpr c47;clear c47;(first|rw [c47b0]|(simp only [i64_w,i32_w];rw [c47b0])|skip)
    by_cases c48 : 0<(t159.length : Int)
    rotate_left
    ·rw [if_neg c48] at H
     exact absurd H (by simp)
    rw [if_pos c48] at H
    have c48b0 : decide (0<(t159.length : Int))=true:=dt_ c48
    have c48b1 : decide (0<t159.length)=true:=dt_ (by omega)
    clear c48;have H':=A_ H;clear H;obtain ⟨Ao49,co49,eo49⟩:=Kd.R_slice HO163.out;subst eo49
    have p164 : 0≤(0 : Int):=(by omega)
    have q164 : 0<(t159.length : Int):=od_ (by first|(with_reducible assumption)|assumption)
    obtain ⟨ad164,e164,hx164_0,hx164_1,hx164_2,hx164_3⟩:=at_T56 (Kd.R_reads' HO163.out).2.2 0 p164 q164
    cases e164
    have qi164 : (0<t159.length)=True:=eq_true (by omega)
    (try rw [N0_] at hx164_0)
    (try rw [show 0 * 4=0 from rfl] at hx164_0)
    (try rw [Addr.add_zero'] at hx164_0);(try rw [N0_] at hx164_1)
    (try rw [show 0 * 4=0 from rfl] at hx164_1)
    (try rw [Addr.add_zero'] at hx164_1);(try rw [N0_] at hx164_2)
    (try rw [show 0 * 4=0 from rfl] at hx164_2)
    (try rw [Addr.add_zero'] at hx164_2);(try rw [N0_] at hx164_3)
    (try rw [show 0 * 4=0 from rfl] at hx164_3)
    (try rw [Addr.add_zero'] at hx164_3);replace p164:=eq_true p164;replace q164:=eq_true q164;go_wp2;go_meet
    case rel=>exact ⟨_,((((rd_T56 t159 0).f1) != 76)),(by first|rfl|(simp;done)|(simp [*];done)),H',⟨by have:=HJ16.out;first|omega|exact Nat.le_refl _⟩,⟨by (with_reducible repeat (first|apply Kd.Q_alloc|apply Kd.Q_drewN|apply Kd.Q_drew));exact HO_5.out⟩,⟨by (with_reducible repeat (first|apply ra_|apply rn_|apply re_));exact Kd.R_mono HO163.out (fun _ hk=>hk.1)⟩,⟨by (with_reducible repeat (first|apply ra_|apply rn_|apply re_));exact Kd.R_mono HO_139000.out (fun _ hk=>hk.1.1)⟩,⟨by exact kk_ BK134.out⟩,⟨by exact kk_ BK138.out⟩,⟨hb2_ HB.out GE134.out GE138.out⟩⟩
   case rest =>
    clear HC34;(try clear c1);(try clear p1);(try clear q1);(try clear hx1);(try clear qi1);(try clear c2);(try clear c2b0);(try clear c2b1);(try clear p2);(try clear c3);(try clear c3b0);(try clear c3b1);(try clear c4);(try clear c5);(try clear c9);(try clear c11);(try clear p16);(try clear q16);(try clear hx16);(try clear qi16);(try clear c23);(try clear c25);(try clear c26);(try clear c27);(try clear c28);(try clear c31);(try clear c32);(try clear c47);(try clear c47b0);(try clear c47b1);(try clear c48);(try clear c48b0);(try clear c48b1);(try clear hx164_0);(try clear hx164_1);(try clear hx164_2);(try clear hx164_3);(try clear p164);(try clear p2);(try clear q164);(try clear z12_0 z12_1 z14_0 z14_1 z15_0 z15_1 z24_0 z24_1 z29_0 z29_1 y12_0 y12_1 y14_0 y14_1 y15_0 y15_1 y24_0 y24_1 y29_0 y29_1);obtain ⟨kq,x56_33,rfl,HA,HJ33,HO_5,HO_8,HO_139000,BK134,BK138,HB⟩:=hcut
    cases kq with
    | zero=>exact absurd HA.out (by simp [leaf_Decode.j1])
    | succ kj33 =>
     have H:=HA.out;clear HA
     simp only [leaf_Decode.j1] at H
     by_cases c50 : x56_33=true
     ·subst c50
      have H1 : (some (([] : List Int),([] : List (List Int)),4))=some (r1,r2,r3):=by rw [if_pos rfl] at H;exact H
      clear H;have H:=H1;clear H1
      simp only [Option.some.injEq,Prod.mk.injEq] at H
      obtain ⟨rfl,rfl,rfl⟩:=H;have hnb51:=NB134_138.out;have hnc51:=NB138_134.out;have z52_0 : wc.cell? ⟨gb134,0,none⟩=some (.slice none 0 0):=(bc_ BK134.out 0).trans rfl;have z52_1 : wc.cell? ⟨gb134,1,none⟩=some (.slice none 0 0):=(bc_ BK134.out 1).trans rfl;have y52_0:=bf_ BK134.out 0;have y52_1:=bf_ BK134.out 1;go_wp2
      refine bodyPost_ret (results_ct rfl _ _ gb134 27 #[.slice none 0 0,.slice none 0 0] (0,0) _ rfl (by refine kk_ ?_;refine blk_put (cs:=#[.slice none 0 0,.slice none 0 0]) ?_ 1 _ rfl;refine kk_ ?_;refine blk_put (cs:=#[.slice none 0 0,.slice none 0 0]) ?_ 0 _ rfl;exact kk_ BK134.out) Try.underlying27 rfl (by kernel_rfl)) rfl ?_
      exact ⟨_,_,by first|rfl|(simp [errW_none,errW_some] <;> rfl)|(simp [*,errW_none,errW_some] <;> rfl),by first|exact Kd.R_nil _ _ _ _ _|exact Kd.N_nil _ _ _ _ _|exact Kd.V_nil _ _ _ _ _|exact Kd.Q_nil _ _ _ _ _|exact Kd.S_nil _ _ _ _ _,by first|exact Kd.S_nil _ _ _ _ _|exact Kd.N_nil _ _ _ _ _|exact Kd.V_nil _ _ _ _ _|exact Kd.Q_nil _ _ _ _ _|exact Kd.R_nil _ _ _ _ _,hb2_ HB.out GE134.out GE138.out⟩
     replace c50:=Bool.eq_false_iff.mpr c50
     subst c50
     have H1 : (leaf_Decode.l0 kj33 t140 t159 t160 y135 (y135.length : Int) 0)=some (r1,r2,r3):=by rw [if_neg (show ¬ (false=true) by decide)] at H;exact H
     clear H;have H:=H1;clear H1;have H':=A_ H;clear H;have hnb53:=NB138_134.out;have hnc53:=NB134_138.out;have z54_0 : wc.cell? ⟨gb138,0,none⟩=some (.slice Ao21 y135.length co21):=(bc_ BK138.out 0).trans rfl;have z54_1 : wc.cell? ⟨gb138,1,none⟩=some (.slice none 0 0):=(bc_ BK138.out 1).trans rfl;have y54_0:=bf_ BK138.out 0;have y54_1:=bf_ BK138.out 1;go_wp2
     go_loopg [61] kj33 (fun kq v61 w'=>∃ (x59_3 : List Int) (x61_3 : Int),v61=.int .i64 x61_3∧Aside0 (leaf_Decode.l0 kq t140 t159 t160 x59_3 (y135.length : Int) x61_3=some (r1,r2,r3))∧Aside0 (kq≤kj33)∧Aside0 (Kd.Q (Kd.int .u8) 5 w' w.heap.size (fun k_=>(w.heap.size≤k_)) (.slice Ao44 t140.length co44) t140)∧Aside0 (Kd.R k56 56 w' w.heap.size (fun k_=>(w.heap.size≤k_)) v162 t159)∧Aside0 (Kd.R (Kd.int .i64) 3 w' w.heap.size (fun k_=>(w.heap.size≤k_)) (.slice Ao21 y135.length co21) x59_3)∧Aside0 (w'.heap[gb134]?=some (.cells #[(.slice none 0 0),(.slice none 0 0)] 27 (0,0)))∧Aside0 (w'.heap[gb138]?=some (.cells #[(.slice Ao21 y135.length co21),(.slice none 0 0)] 27 (0,0)))∧Aside0 (Below w.heap.size w w'))
     case atStart=>exact ⟨(y135),(0),(by first|rfl|(simp;done)|(simp [*];done)),H',⟨Nat.le_refl _⟩,⟨by (with_reducible repeat (first|apply Kd.Q_alloc|apply Kd.Q_drewN|apply Kd.Q_drew));exact HO_5.out⟩,⟨by (with_reducible repeat (first|apply ra_|apply rn_|apply re_));exact HO_8.out⟩,⟨by (with_reducible repeat (first|apply ra_|apply rn_|apply re_));exact HO_139000.out⟩,⟨by exact kk_ BK134.out⟩,⟨by exact kk_ BK138.out⟩,⟨hb2_ HB.out GE134.out GE138.out⟩⟩
     case round =>
      clear H';(try clear c1);(try clear p1);(try clear q1);(try clear hx1);(try clear qi1);(try clear c2);(try clear c2b0);(try clear c2b1);(try clear p2);(try clear c3);(try clear c3b0);(try clear c3b1);(try clear c4);(try clear c5);(try clear c9);(try clear c11);(try clear p16);(try clear q16);(try clear hx16);(try clear qi16);(try clear c23);(try clear c25);(try clear c26);(try clear c27);(try clear c28);(try clear c31);(try clear c32);(try clear c47);(try clear c47b0);(try clear c47b1);(try clear c48);(try clear c48b0);(try clear c48b1);(try clear c50);(try clear c51);(try clear c53);(try clear hx164_0);(try clear hx164_1);(try clear hx164_2);(try clear hx164_3);(try clear p1);(try clear p16);(try clear p164);(try clear p2);(try clear q1);(try clear q16);(try clear q164);(try clear z12_0 z12_1 z14_0 z14_1 z15_0 z15_1 z24_0 z24_1 z29_0 z29_1 z52_0 z52_1 z54_0 z54_1 y12_0 y12_1 y14_0 y14_1 y15_0 y15_1 y24_0 y24_1 y29_0 y29_1 y52_0 y52_1 y54_0 y54_1);obtain ⟨x59_3,x61_3,rfl,HA,HK3,HO_5,HO_8,HO_59,BK134,BK138,HB⟩:=hrel;have hl59_3:=(Kd.R_reads' HO_59.out).1;rw [hl59_3] at HO_59;(try simp only [hl59_3]);(try simp only [hl59_3] at BK134);(try simp only [hl59_3] at BK138);(try simp only [hl59_3] at HO_5);(try simp only [hl59_3] at HO_8)
      cases gk with
      | zero=>exact absurd HA.out (by simp [leaf_Decode.l0])
      | succ k3 =>
       have H:=HA.out;clear HA
       simp only [leaf_Decode.l0] at H
       by_cases c55 : x61_3<(y135.length : Int)
       ·rw [if_pos c55] at H
        have c55b0 : decide (x61_3<(y135.length : Int))=true:=dt_ c55;(try (have c55b0h:=c55b0; simp only [hl59_3] at c55b0h));clear c55
        obtain ⟨ji56,hji56⟩ : ∃ j_ : Int,(wrap64 (1 + x61_3))=j_:=⟨_,rfl⟩
        replace H : (if 0≤(ji56) then (if (ji56)<(t159.length : Int) then (if 0≤x61_3 then (if x61_3<(x59_3.length : Int) then (leaf_Decode.l0 k3 t140 t159 t160 (x59_3.set (x61_3 : Int).toNat ((rd_T56 t159 (ji56)).f1)) (y135.length : Int) (wrap64 (x61_3 + 1))) else (none)) else (none)) else (none)) else (none))=some (r1,r2,r3):=by first|(rw [hji56] at H;exact H)|(simp only [hji56] at H ⊢;exact H)
        have hji56w : (IntKind.i64.wrap (1 + x61_3))=ji56:=(i64_w _).trans hji56
        by_cases c57 : 0≤(ji56)
        rotate_left
        ·rw [if_neg c57] at H
         exact absurd H (by simp)
        rw [if_pos c57] at H
        have c57b0 : decide (0≤(ji56))=true:=dt_ c57;clear c57
        by_cases c58 : (ji56)<(t159.length : Int)
        rotate_left
        ·rw [if_neg c58] at H
         exact absurd H (by simp)
        rw [if_pos c58] at H
        have c58b0 : decide ((ji56)<(t159.length : Int))=true:=dt_ c58;(try (have c58b0h:=c58b0; simp only [hl59_3] at c58b0h));clear c58
        by_cases c59 : 0≤x61_3
        rotate_left
        ·rw [if_neg c59] at H
         exact absurd H (by simp)
        rw [if_pos c59] at H
        have c59b0 : decide (0≤x61_3)=true:=dt_ c59;clear c59
        by_cases c60 : x61_3<(x59_3.length : Int)
        rotate_left
        ·rw [if_neg c60] at H
         exact absurd H (by simp)
        rw [if_pos c60] at H
        have c60b0 : decide (x61_3<(x59_3.length : Int))=true:=dt_ c60;(try (have c60b0h:=c60b0; simp only [hl59_3] at c60b0h));clear c60
        obtain ⟨y166,hy166⟩ : ∃ y_ : List Int,y_=(x59_3.set (x61_3 : Int).toNat ((rd_T56 t159 (ji56)).f1)):=⟨_,rfl⟩
        replace H : (leaf_Decode.l0 k3 t140 t159 t160 y166 (y135.length : Int) (wrap64 (x61_3 + 1)))=some (r1,r2,r3):=by first|(rw [hy166];with_reducible exact H)|(have H2_:=(Option.bind_some _ _).symm.trans H;rw [hy166];with_reducible exact H2_)|(have H2_:=(Option.bind_some _ _).symm.trans H;with_reducible exact H2_)|with_reducible exact H|(rw [hy166];exact H)|exact H
        have Ny166:=A_ hy166;clear hy166;have H':=A_ H;clear H
        try go_wp2
        have n0_:=A_ (Kd.Q_drew HO_5.out);have n1_:=A_ (re_ HO_8.out);have n2_:=A_ (re_ HO_59.out);have n3_:=A_ (ke_ BK134.out);have n4_:=A_ (ke_ BK138.out);have n5_:=A_ (be_ HB.out);clear HO_5;clear HO_8;clear HO_59;clear BK134;clear BK138;clear HB;have HO_5:=n0_;have HO_8:=n1_;have HO_59:=n2_;have BK134:=n3_;have BK138:=n4_;have HB:=n5_;clear n0_ n1_ n2_ n3_ n4_ n5_;obtain ⟨Ao63,co63,eo63⟩:=Kd.R_slice HO_8.out
        (first|subst eo63|(injection eo63 with f1_ f2_ f3_;have f4_:=f1_.symm;have f5_:=f3_.symm;clear f1_ f2_ f3_;subst f4_;subst f5_))
        have p165 : 0≤((ji56) : Int):=od_ (by first|(with_reducible assumption)|assumption)
        have q165 : (ji56)<(t159.length : Int):=od_ (by first|(with_reducible assumption)|assumption)
        obtain ⟨ad165,e165,hx165_0,hx165_1,hx165_2,hx165_3⟩:=at_T56 (Kd.R_reads' HO_8.out).2.2 (ji56) p165 q165
        cases e165
        replace p165:=eq_true p165;replace q165:=eq_true q165
        have p61 : 0≤(x61_3 : Int):=od_ (by first|(with_reducible assumption)|assumption)
        have q61 : (x61_3 : Int)<((x59_3.length : Int) : Int):=od_ (by first|(with_reducible assumption)|assumption)
        obtain ⟨go61,co61,eo61,gb61,gl61,cl61,HG61⟩:=Kd.R_form HO_59.out (by omega)
        (first|cases eo61|(injection eo61 with ea_ en_ ec_;(first|subst ea_|(injection ea_ with ea_;subst ea_));subst ec_;clear en_))
        have GB61:=A_ gb61;have GG61:=A_ HG61;clear gb61 gl61 HG61;obtain ⟨hx61_0,hf61_0⟩:=Kd.R_celln 0 HO_59.out (x61_3 : Int) p61 q61;replace p61:=eq_true p61;replace q61:=eq_true q61;have HP64:=Kd.R_putn HO_59.out (x61_3 : Int) ((rd_T56 t159 (ji56)).f1);rw [← Ny166.out] at HP64;have HQ64:=A_ HP64;clear HP64
        refine start_ (n:=11) (S:=fun w'=>w'.cell? ⟨gb138,0,none⟩=some (.slice (some ⟨go61,0,none⟩) x59_3.length co21)∧w'.cell? ⟨gb138,1,none⟩=some (.slice none 0 0)∧w'.cell? (ad165.add (((ji56)).toNat * 4))=some (.int .i64 ((rd_T56 t159 (ji56)).f0))∧w'.cell? ⟨(ad165.add (((ji56)).toNat * 4)).block,(ad165.add (((ji56)).toNat * 4)).off + 1,none⟩=some (.int .i64 ((rd_T56 t159 (ji56)).f1))∧w'.cell? ⟨(ad165.add (((ji56)).toNat * 4)).block,(ad165.add (((ji56)).toNat * 4)).off + 2,none⟩=some (.float .f64 ((rd_T56 t159 (ji56)).f2))∧w'.cell? ⟨(ad165.add (((ji56)).toNat * 4)).block,(ad165.add (((ji56)).toNat * 4)).off + 3,none⟩=some (.string ((rd_T56 t159 (ji56)).f3))) (ds:=[10]) #[Z,Z,Z,Z,Z,Z,Z,Z,Z,Z,Z] (by kernel_rfl) rfl rfl ⟨(bc_ BK138.out 0).trans rfl,(bc_ BK138.out 1).trans rfl,hx165_0,hx165_1,hx165_2,hx165_3⟩ (fun hHeld=>?_);refine with_tabW leaf_Decode.tab16 leaf_Decode.bits16 (fun HT_ HW_=>?_)
        generalize wr.drew=w62 at HO_5 HO_8 HO_59 BK134 BK138 HB GG61 HQ64 hf61_0 hx165_0 hx165_1 hx165_2 hx165_3 hx61_0 hHeld ⊢
        refine pu_ (i:=0) (N:=some 64) (v:=?_) (a':=?_) #[Y,Z,Z,Z,Z,Z,Z,Z,Z,Z,Z] rfl rfl HT_.out (by kernel_rfl) (fun _ _ _ h=>h) (by rfl) ?_ ?_ ?_;rotate_left;(intro w';go_simp;with_reducible rfl);rotate_left;(simp only [Act.put,q1_,q2_,q3_,i64_w,i32_w];rfl)
        refine pu_ (i:=2) (N:=some 66) (v:=?_) (a':=?_) #[Y,Z,Y,Z,Z,Z,Z,Z,Z,Z,Z] rfl rfl HT_.out (by kernel_rfl) (fun _ _ _ h=>h) (by rfl) ?_ ?_ ?_;rotate_left;(intro w';go_simp;with_reducible rfl);rotate_left;(simp only [Act.put,q1_,q2_,q3_,i64_w,i32_w];rfl)
        refine pu_ (i:=3) (N:=some 67) (v:=?_) (a':=?_) #[Y,Z,Y,Y,Z,Z,Z,Z,Z,Z,Z] rfl rfl HT_.out (by kernel_rfl) (fun _ _ _ h=>h) (by rfl) ?_ ?_ ?_;rotate_left;(intro w';go_simp;with_reducible rfl);rotate_left;(simp only [Act.put,q1_,q2_,q3_,i64_w,i32_w];rfl)
        refine pu_ (i:=4) (N:=some 68) (v:=?_) (a':=?_) #[Y,Z,Y,Y,Y,Z,Z,Z,Z,Z,Z] rfl rfl HT_.out (by kernel_rfl) (fun _ _ _ h=>h) (by rfl) ?_ ?_ ?_;rotate_left;(intro w';go_simp;with_reducible rfl);rotate_left;(simp only [Act.put,q1_,q2_,q3_,i64_w,i32_w];rfl)
        refine pu_ (i:=5) (N:=some 69) (v:=?_) (a':=?_) #[Y,Z,Y,Y,Y,Y,Z,Z,Z,Z,Z] rfl rfl HT_.out (by kernel_rfl) (fun _ _ _ h=>h) (by rfl) ?_ ?_ ?_;rotate_left;(intro w';go_simp;with_reducible rfl);rotate_left;(simp only [Act.put,q1_,q2_,q3_,i64_w,i32_w];rfl)
        refine pu_ (i:=6) (N:=some 70) (v:=?_) (a':=?_) #[Y,Z,Y,Y,Y,Y,Y,Z,Z,Z,Z] rfl rfl HT_.out (by kernel_rfl) (fun _ _ _ h=>h) (by rfl) ?_ ?_ ?_;rotate_left;(intro w';go_simp;with_reducible rfl);rotate_left;(simp only [Act.put,q1_,q2_,q3_,i64_w,i32_w];rfl)
        refine pu_ (i:=7) (N:=some 71) (v:=?_) (a':=?_) #[Y,Z,Y,Y,Y,Y,Y,Y,Z,Z,Z] rfl rfl HT_.out (by kernel_rfl) (fun _ _ _ h=>h) (by rfl) ?_ ?_ ?_;rotate_left;(intro w';go_simp;with_reducible rfl);rotate_left;(simp only [Act.put,q1_,q2_,q3_,i64_w,i32_w];rfl)
        refine ta_ (i:=1) (N:=some 65) (v:=?_) (a':=?_) #[Y,Y,Y,Y,Y,Y,Y,Y,Z,Z,Z] rfl rfl HT_.out HW_.out (by kernel_rfl) (fun _ _ _ h=>h) (by rfl) ?_ hHeld ?_ ?_;rotate_left;(rintro w' ⟨s0,s1,s2,s3,s4,s5⟩;go_simp;with_reducible rfl);rotate_left;(simp only [Act.put,q1_,q2_,q3_,i64_w,i32_w];rfl)
        refine ta_ (i:=8) (N:=some 72) (v:=?_) (a':=?_) #[Y,Y,Y,Y,Y,Y,Y,Y,Y,Z,Z] rfl rfl HT_.out HW_.out (by kernel_rfl) (fun _ _ _ h=>h) (by rfl) ?_ hHeld ?_ ?_;rotate_left;(rintro w' ⟨s0,s1,s2,s3,s4,s5⟩;go_simp;with_reducible rfl);rotate_left;(simp only [Act.put,q1_,q2_,q3_,i64_w,i32_w];rfl)
        refine pu_ (i:=9) (N:=some 73) (v:=?_) (a':=?_) #[Y,Y,Y,Y,Y,Y,Y,Y,Y,Y,Z] rfl rfl HT_.out (by kernel_rfl) (fun _ _ _ h=>h) (by rfl) ?_ ?_ ?_;rotate_left;(intro w';go_simp;with_reducible rfl);rotate_left;(simp only [Act.put,q1_,q2_,q3_,i64_w,i32_w];rfl)
        refine last_ (i:=10) (N:=none) #[Y,Y,Y,Y,Y,Y,Y,Y,Y,Y,Y] rfl rfl (one_of HT_.out (by kernel_rfl)) (by decide) (fun K hK=>?_)
        refine skip_ (w1:=?_) (by rfl) rfl ?_ ?_
        rotate_left
        ·go_simp
         rfl
        refine hK.out _ _ ?_;clear hK K;refine done_ (done_of HT_.out (by kernel_rfl)) ?_
        try go_wp2
        (try simp only [← hl59_3]);go_roundg k3
        case measure=>have:=HJ16.out;have:=HJ33.out;have:=HK3.out;omega
        case rel=>exact ⟨(y166),(wrap64 (x61_3 + 1)),(by first|rfl|(simp;done)|(simp [*];done)),H',⟨by have:=HJ16.out;have:=HJ33.out;have:=HK3.out;omega⟩,⟨by (try simp only [hl59_3]);(with_reducible repeat (first|apply Kd.Q_alloc|apply Kd.Q_drewN|apply Kd.Q_drew));exact Kd.Q_mono (Kd.Q_far (p:=⟨go61,(x61_3 : Int).toNat,none⟩) (Kd.Q_types HO_5.out GG61.out (by decide)) (fun _ hk=>hk.2) (.int .i64 ((rd_T56 t159 (ji56)).f1))) (fun _ hk=>hk.1)⟩,⟨by (try simp only [hl59_3]);(with_reducible repeat (first|apply ra_|apply rn_|apply re_));exact Kd.R_mono (rf_ (p:=⟨go61,(x61_3 : Int).toNat,none⟩) (Kd.R_types HO_8.out GG61.out (by decide)) (fun _ hk=>hk.2) (.int .i64 ((rd_T56 t159 (ji56)).f1))) (fun _ hk=>hk.1)⟩,⟨by (try simp only [hl59_3]);(with_reducible repeat (first|apply ra_|apply rn_|apply re_));exact HQ64.out⟩,⟨by (try simp only [hl59_3]);refine kk_ ?_;refine blk_far ?_ (by have h_:=Kd.R_ne HO_59.out BK134.out (by decide);intro e_;exact h_ (by rw [e_];rfl)) _;exact kk_ BK134.out⟩,⟨by (try simp only [hl59_3]);refine kk_ ?_;refine blk_far ?_ (by have h_:=Kd.R_ne HO_59.out BK138.out (by decide);intro e_;exact h_ (by rw [e_];rfl)) _;exact kk_ BK138.out⟩,⟨hb3_ HB.out GB61.out GE134.out GE138.out⟩⟩
       rw [if_neg c55] at H
       have c55b0 : decide (x61_3<(y135.length : Int))=false:=df_ c55;(try (have c55b0h:=c55b0; simp only [hl59_3] at c55b0h));clear c55
       by_cases c65 : 0≤t160
       rotate_left
       ·rw [if_neg c65] at H
        exact absurd H (by simp)
       rw [if_pos c65] at H
       have c65b0:=eq_true c65;have c65b1 : decide (0≤t160)=true:=dt_ c65;clear c65
       by_cases c66 : t160≤(t140.length : Int)
       rotate_left
       ·rw [if_neg c66] at H
        exact absurd H (by simp)
       rw [if_pos c66] at H
       have c66b0:=eq_true c66;have c66b1 : decide (t160≤(t140.length : Int))=true:=dt_ c66;(try (have c66b1h:=c66b1; simp only [hl59_3] at c66b1h));clear c66
       obtain ⟨y167,hy167⟩ : ∃ y_ : List Int,y_=(t140.drop (t160 : Int).toNat):=⟨_,rfl⟩
       replace H : (if 5<(t159.length : Int) then ((slices_Repeat_int_int.f (([5] : List Int)) ((rd_T56 t159 5).f1)).bind fun t175=>((pack_Take.f y167 t175).bind fun bt178=>(if bt178.2.2=0 then (if 0≤(wrap64 (t160 + bt178.2.1)) then (if (wrap64 (t160 + bt178.2.1))≤(t140.length : Int) then ((leaf_nought.f (t140.drop ((wrap64 (t160 + bt178.2.1)) : Int).toNat)).bind fun t187=>(leaf_Decode.j3 k3 bt178.1 (!t187) x59_3)) else (none)) else (none)) else (leaf_Decode.j3 k3 bt178.1 true x59_3)))) else (none))=some (r1,r2,r3):=by first|(rw [hy167];with_reducible exact H)|(have H2_:=(Option.bind_some _ _).symm.trans H;rw [hy167];with_reducible exact H2_)|(have H2_:=(Option.bind_some _ _).symm.trans H;with_reducible exact H2_)|with_reducible exact H|(rw [hy167];exact H)|exact H
       have Ny167:=A_ hy167;clear hy167
       obtain ⟨y171,hy171⟩ : ∃ y_ : List Int,y_=(([5] : List Int)):=⟨_,rfl⟩
       replace H : (if 5<(t159.length : Int) then ((slices_Repeat_int_int.f y171 ((rd_T56 t159 5).f1)).bind fun t175=>((pack_Take.f y167 t175).bind fun bt178=>(if bt178.2.2=0 then (if 0≤(wrap64 (t160 + bt178.2.1)) then (if (wrap64 (t160 + bt178.2.1))≤(t140.length : Int) then ((leaf_nought.f (t140.drop ((wrap64 (t160 + bt178.2.1)) : Int).toNat)).bind fun t187=>(leaf_Decode.j3 k3 bt178.1 (!t187) x59_3)) else (none)) else (none)) else (leaf_Decode.j3 k3 bt178.1 true x59_3)))) else (none))=some (r1,r2,r3):=by first|(rw [hy171];with_reducible exact H)|(have H2_:=(Option.bind_some _ _).symm.trans H;rw [hy171];with_reducible exact H2_)|(have H2_:=(Option.bind_some _ _).symm.trans H;with_reducible exact H2_)|with_reducible exact H|(rw [hy171];exact H)|exact H
       have Ny171:=A_ hy171;clear hy171
       by_cases c67 : 5<(t159.length : Int)
       rotate_left
       ·rw [if_neg c67] at H
        exact absurd H (by simp)
       rw [if_pos c67] at H
       have c67b0 : decide (5<(t159.length : Int))=true:=dt_ c67;(try (have c67b0h:=c67b0; simp only [hl59_3] at c67b0h))
       have c67b1 : decide (5<t159.length)=true:=dt_ (by omega)
       clear c67;replace H:=Option.bind_eq_some_iff.mp H;obtain ⟨t175,A680,H⟩:=H
       replace H : ((pack_Take.f y167 t175).bind fun bt178=>(if bt178.2.2=0 then (if 0≤(wrap64 (t160 + bt178.2.1)) then (if (wrap64 (t160 + bt178.2.1))≤(t140.length : Int) then ((leaf_nought.f (t140.drop ((wrap64 (t160 + bt178.2.1)) : Int).toNat)).bind fun t187=>(leaf_Decode.j3 k3 bt178.1 (!t187) x59_3)) else (none)) else (none)) else (leaf_Decode.j3 k3 bt178.1 true x59_3)))=some (r1,r2,r3):=H
       have A68:=A_ A680;clear A680;replace H:=Option.bind_eq_some_iff.mp H;obtain ⟨⟨t178,t179,t180⟩,A690,H⟩:=H
       replace H : (if t180=0 then (if 0≤(wrap64 (t160 + t179)) then (if (wrap64 (t160 + t179))≤(t140.length : Int) then ((leaf_nought.f (t140.drop ((wrap64 (t160 + t179)) : Int).toNat)).bind fun t187=>(leaf_Decode.j3 k3 t178 (!t187) x59_3)) else (none)) else (none)) else (leaf_Decode.j3 k3 t178 true x59_3))=some (r1,r2,r3):=H
       have A69:=A_ A690;clear A690;have HC70:=A_ H;clear H
       try go_wp2
       have n0_:=A_ (Kd.Q_drew HO_5.out);have n1_:=A_ (re_ HO_8.out);have n2_:=A_ (re_ HO_59.out);have n3_:=A_ (ke_ BK134.out);have n4_:=A_ (ke_ BK138.out);have n5_:=A_ (be_ HB.out);clear HO_5;clear HO_8;clear HO_59;clear BK134;clear BK138;clear HB;have HO_5:=n0_;have HO_8:=n1_;have HO_59:=n2_;have BK134:=n3_;have BK138:=n4_;have HB:=n5_;clear n0_ n1_ n2_ n3_ n4_ n5_
       have q72 : (t160 : Int)≤((t140.length : Int) : Int):=od_ (by first|(with_reducible assumption)|assumption)
       obtain ⟨i072,hi072,_,hsz72,_⟩:=info_parts info5;have hroom72 : t140.length≤co44:=(Kd.Q_reads' HO_5.out).2.1;have hC72 : Kd.C (Kd.int .u8) _ Ao44 t140.length t140:=(Kd.Q_reads' HO_5.out).2.2
       have q072 : (0 : Int)≤(t160 : Int):=od_ (by first|(with_reducible assumption)|assumption)
       have hcut72:=cut_from (P:=Try.prog) 22 5 .i64 Try.underlying22 hi072 1 hsz72 Ao44 t140.length co44 t160 q072 q72
       have hr72:=Kd.C_drop (m:=(t160 : Int).toNat) (c:=co44) hC72 (by omega) hroom72
       obtain ⟨A72,hA72⟩ : ∃ A1,A1=(if co44=(t160 : Int).toNat then Ao44 else (Ao44 : Option Addr).map (·.add ((t160 : Int).toNat * 1))):=⟨_,rfl⟩
       obtain ⟨c72,hc72⟩ : ∃ c1,c1=co44 - (t160 : Int).toNat:=⟨_,rfl⟩
       have hy72 : y167.length=t140.length - (t160 : Int).toNat:=(by rw [Ny167.out,List.length_drop] <;> omega)
       rw [show (t140).drop (t160 : Int).toNat=y167 from Ny167.out.symm] at hr72
       replace hr72 : Kd.C (Kd.int .u8) _ A72 y167.length y167:=(by rw [hA72];exact hr72)
       rw [← hy72,← hA72,← hc72] at hcut72;have HR170:=A_ hr72
       have HC170:=A_ (show y167.length≤c72 from by rw [hy72,hc72];exact Nat.sub_le_sub_right hroom72 _)
       clear hr72 hC72 hroom72 hi072 hsz72 hc72;have KY72:=A_ hy72;have KA72:=A_ hA72;clear hy72 hA72
       have KL72:=A_ (show (t160 : Int).toNat≤t140.length from by omega)
       replace q72:=eq_true q72;obtain ⟨Ao73,co73,eo73⟩:=Kd.R_slice HO_8.out
       (first|subst eo73|(injection eo73 with f1_ f2_ f3_;have f4_:=f1_.symm;have f5_:=f3_.symm;clear f1_ f2_ f3_;subst f4_;subst f5_))
       have p174 : 0≤(5 : Int):=(by omega)
       have q174 : 5<(t159.length : Int):=od_ (by first|(with_reducible assumption)|assumption)
       obtain ⟨ad174,e174,hx174_0,hx174_1,hx174_2,hx174_3⟩:=at_T56 (Kd.R_reads' HO_8.out).2.2 5 p174 q174
       cases e174
       (try simp only [N5_,Nat.reduceMul,Nat.reduceEqDiff,Go.Addr.add,↓reduceIte] at hx174_0 hx174_1 hx174_2 hx174_3)
       have qi174 : (5<t159.length)=True:=eq_true (by omega)
       replace p174:=eq_true p174;replace q174:=eq_true q174
       refine start_ (n:=17) (S:=fun w'=>w'.cell? ⟨ad174.block,ad174.off + 20,none⟩=some (.int .i64 ((rd_T56 t159 5).f0))∧w'.cell? ⟨ad174.block,ad174.off + 20 + 1,none⟩=some (.int .i64 ((rd_T56 t159 5).f1))∧w'.cell? ⟨ad174.block,ad174.off + 20 + 2,none⟩=some (.float .f64 ((rd_T56 t159 5).f2))∧w'.cell? ⟨ad174.block,ad174.off + 20 + 3,none⟩=some (.string ((rd_T56 t159 5).f3))) (ds:=[8,9]) #[Z,Z,Z,Z,Z,Z,Z,Z,Z,Z,Z,Z,Z,Z,Z,Z,Z] (by kernel_rfl) rfl rfl ⟨hx174_0,hx174_1,hx174_2,hx174_3⟩ (fun hHeld=>?_);refine with_tabW leaf_Decode.tab18 leaf_Decode.bits18 (fun HT_ HW_=>?_)
       generalize wr.drew=w71 at HO_5 HO_8 HO_59 BK134 BK138 HB HR170 hx174_0 hx174_1 hx174_2 hx174_3 hHeld ⊢
       refine pu_ (i:=0) (N:=some 76) (v:=?_) (a':=?_) #[Y,Z,Z,Z,Z,Z,Z,Z,Z,Z,Z,Z,Z,Z,Z,Z,Z] rfl rfl HT_.out (by kernel_rfl) (fun _ _ _ h=>h) (by rfl) ?_ ?_ ?_;rotate_left;(intro w';go_simp;with_reducible rfl);rotate_left;(simp only [Act.put,q1_,q2_,q3_,i64_w,i32_w];rfl)
       refine pu_ (i:=1) (N:=some 77) (v:=?_) (a':=?_) #[Y,Y,Z,Z,Z,Z,Z,Z,Z,Z,Z,Z,Z,Z,Z,Z,Z] rfl rfl HT_.out (by kernel_rfl) (fun _ _ _ h=>h) (by rfl) ?_ ?_ ?_;rotate_left;(intro w';go_simp;with_reducible rfl);rotate_left;(simp only [Act.put,q1_,q2_,q3_,i64_w,i32_w];rfl)
       refine pu_ (i:=2) (N:=some 78) (v:=?_) (a':=?_) #[Y,Y,Y,Z,Z,Z,Z,Z,Z,Z,Z,Z,Z,Z,Z,Z,Z] rfl rfl HT_.out (by kernel_rfl) (fun _ _ _ h=>h) (by rfl) ?_ ?_ ?_;rotate_left;(intro w';go_simp;with_reducible rfl);rotate_left;(simp only [Act.put,q1_,q2_,q3_,i64_w,i32_w];rfl)
       refine pu_ (i:=4) (N:=some 80) (v:=?_) (a':=?_) #[Y,Y,Y,Z,Y,Z,Z,Z,Z,Z,Z,Z,Z,Z,Z,Z,Z] rfl rfl HT_.out (by kernel_rfl) (fun _ _ _ h=>h) (by rfl) ?_ ?_ ?_;rotate_left;(intro w';go_simp;with_reducible rfl);rotate_left;(simp only [Act.put,q1_,q2_,q3_,i64_w,i32_w];rfl)
       refine pu_ (i:=5) (N:=some 81) (v:=?_) (a':=?_) #[Y,Y,Y,Z,Y,Y,Z,Z,Z,Z,Z,Z,Z,Z,Z,Z,Z] rfl rfl HT_.out (by kernel_rfl) (fun _ _ _ h=>h) (by rfl) ?_ ?_ ?_;rotate_left;(intro w';go_simp;with_reducible rfl);rotate_left;(simp only [Act.put,q1_,q2_,q3_,i64_w,i32_w];rfl)
       refine pu_ (i:=6) (N:=some 82) (v:=?_) (a':=?_) #[Y,Y,Y,Z,Y,Y,Y,Z,Z,Z,Z,Z,Z,Z,Z,Z,Z] rfl rfl HT_.out (by kernel_rfl) (fun _ _ _ h=>h) (by rfl) ?_ ?_ ?_;rotate_left;(intro w';go_simp;with_reducible rfl);rotate_left;(simp only [Act.put,q1_,q2_,q3_,i64_w,i32_w];rfl)
       refine ta_ (i:=7) (N:=some 83) (v:=?_) (a':=?_) #[Y,Y,Y,Z,Y,Y,Y,Y,Z,Z,Z,Z,Z,Z,Z,Z,Z] rfl rfl HT_.out HW_.out (by kernel_rfl) (fun _ _ _ h=>h) (by rfl) ?_ hHeld ?_ ?_;rotate_left;(rintro w' ⟨s0,s1,s2,s3⟩;go_simp;with_reducible rfl);rotate_left;(simp only [Act.put,q1_,q2_,q3_,i64_w,i32_w];rfl)
       refine one_ (i:=3) (N:=some 79) #[Y,Y,Y,Y,Y,Y,Y,Y,Z,Z,Z,Z,Z,Z,Z,Z,Z] rfl rfl (one_of HT_.out (by kernel_rfl)) (by decide) (fun K hK=>?_)
       refine Kd.R_lit_step (Kd.int .i64) _ 3 ?hg (N:=79) ?hd (xs:=([5] : List Int)) (inner:=[.int .i64 5]) (ok:=fun _=>True) (okp:=fun _=>True) ?hr ?hp (fun _ hk=>hk) trivial (Below.refl _ _) (Nat.le_refl _) (by simp) ?_;(case hd=>rfl);(case hg=>rfl);(case hr=>first|(go_simp;done)|(go_simp;rfl));(case hp=>exact (Reps.one (show Kd.M (Kd.int .i64) _ _ _ 5 [.int .i64 5] from rfl) (Reps.none _ _)))
       intro v172 w74 ho75 hb hg_ hnew_;have HS0_:=(hb.cell (wb_ _ _ (hHeld.1))).trans (hHeld.1);have HS1_:=(hb.cell (wb_ _ _ (hHeld.2.1))).trans (hHeld.2.1);have HS2_:=(hb.cell (wb_ _ _ (hHeld.2.2.1))).trans (hHeld.2.2.1);have HS3_:=(hb.cell (wb_ _ _ (hHeld.2.2.2))).trans (hHeld.2.2.2);clear hg_ hnew_;(first|rw [← Ny171.out] at ho75|(simp only [Int.reduceToNat] at ho75;rw [← Ny171.out] at ho75))
       have n0_:=A_ (Kd.Q_below (by (with_reducible repeat (first|apply Kd.Q_alloc|apply Kd.Q_drewN|apply Kd.Q_drew));exact HO_5.out) hb)
       have n1_:=A_ (Kd.R_below (by (with_reducible repeat (first|apply ra_|apply rn_|apply re_));exact HO_8.out) hb)
       have n2_:=A_ (Kd.R_elder' (by (with_reducible repeat (first|apply ra_|apply rn_|apply re_));exact HO_59.out) (Kd.R_base ho75) hb)
       have n3_:=A_ (Kd.R_lower (Kd.R_new' (Kd.R_newM (M:=fun k_=>(w.heap.size≤k_)) ho75 (bz_ (hb2_ HB.out GE134.out GE138.out)) (fun k_ h_=>h_)) (Kd.R_lt (by (with_reducible repeat (first|apply ra_|apply rn_|apply re_));exact HO_59.out))) (bz_ (hb2_ HB.out GE134.out GE138.out)))
       have n4_:=A_ (bx_ BK134.out kf_ hb);have n5_:=A_ (bx_ BK138.out kf_ hb)
       have n6_:=A_ (Kd.C_below (by repeat (first|(with_reducible exact HR170.out)|(with_reducible refine Kd.C_alloc ?_ _)|(with_reducible refine Kd.C_drewN ?_ _)|(with_reducible refine Kd.C_drew ?_)|exact HR170.out)) hb)
       have n7_:=A_ (bp_ (hb2_ HB.out GE134.out GE138.out) hb);clear HO_5;clear HO_8;clear HO_59;clear BK134;clear BK138;clear HR170;clear HB;have HO_5:=n0_;have HO_8:=n1_;have HO_59:=n2_;have HO173:=n3_;have BK134:=n4_;have BK138:=n5_;have HR170:=n6_;have HB:=n7_;clear n0_ n1_ n2_ n3_ n4_ n5_ n6_ n7_;clear hb ho75;obtain ⟨Ao76,co76,eo76⟩:=Kd.R_slice HO173.out
       (first|subst eo76|(injection eo76 with f1_ f2_ f3_;have f4_:=f1_.symm;have f5_:=f3_.symm;clear f1_ f2_ f3_;subst f4_;subst f5_))
       refine hK.out _ _ ⟨HS0_,HS1_,HS2_,HS3_⟩ (fun hHeld=>?_)
       clear hK K
       refine norm_ (a':=?_) ?_ ?_;rotate_left;(show Act.put _ (some 79) _=_;simp only [Act.put,q1_,q2_,q3_,i64_w,i32_w];rfl)
       refine last_ (i:=8) (N:=some 84) #[Y,Y,Y,Y,Y,Y,Y,Y,Y,Z,Z,Z,Z,Z,Z,Z,Z] rfl rfl (one_of HT_.out (by kernel_rfl)) (by decide) (fun K hK=>?_)
       refine goes_ Try.func27 (by kernel_rfl) rfl #[.slice Ao76 y171.length co76,.int .i64 ((rd_T56 t159 5).f1)] (by rfl) rfl rfl (by (try simp only [List.map_toArray,List.map_cons,List.map_nil]);first|done|rfl|(simp only [List.length_drop,List.length_take];rfl)) ?_
       with_reducible refine (slices_Repeat_int_int.calls _ _ y171 ((rd_T56 t159 5).f1) t175 _ ?side1 ?side2 A68.out).mono ?_
       (case side1=>repeat (first|exact (Kd.R_reads' HO173.out).2.2|(with_reducible refine Kd.C_alloc ?_ _)|(with_reducible refine Kd.C_drewN ?_ _)|(with_reducible refine Kd.C_drew ?_)))
       (case side2=>exact (Kd.R_reads' HO173.out).2.1)
       rintro e w77 ⟨v176,rfl,ho0,hb⟩;refine ⟨_,rfl,?_⟩
       have n0_:=A_ (Kd.Q_below (by (with_reducible repeat (first|apply Kd.Q_alloc|apply Kd.Q_drewN|apply Kd.Q_drew));exact HO_5.out) hb)
       have n1_:=A_ (Kd.R_below (by (with_reducible repeat (first|apply ra_|apply rn_|apply re_));exact HO_8.out) hb)
       have n2_:=A_ (Kd.R_elder' (by (with_reducible repeat (first|apply ra_|apply rn_|apply re_));exact HO_59.out) (Kd.R_base ho0) hb)
       have n3_:=A_ (Kd.R_elder' (by (with_reducible repeat (first|apply ra_|apply rn_|apply re_));exact HO173.out) (Kd.R_base ho0) hb)
       have n4_:=A_ (Kd.R_lower (Kd.R_new' (Kd.R_new' (Kd.R_newM (M:=fun k_=>(w.heap.size≤k_)) ho0 (bz_ (hb2_ HB.out GE134.out GE138.out)) (fun k_ h_=>h_)) (Kd.R_lt (by (with_reducible repeat (first|apply ra_|apply rn_|apply re_));exact HO_59.out))) (Kd.R_lt (by (with_reducible repeat (first|apply ra_|apply rn_|apply re_));exact HO173.out))) (bz_ (hb2_ HB.out GE134.out GE138.out)))
       have n5_:=A_ (bx_ BK134.out kf_ hb);have n6_:=A_ (bx_ BK138.out kf_ hb)
       have n7_:=A_ (Kd.C_below (by repeat (first|(with_reducible exact HR170.out)|(with_reducible refine Kd.C_alloc ?_ _)|(with_reducible refine Kd.C_drewN ?_ _)|(with_reducible refine Kd.C_drew ?_)|exact HR170.out)) hb)
       have n8_:=A_ (bp_ (hb2_ HB.out GE134.out GE138.out) hb);clear HO_5;clear HO_8;clear HO_59;clear HO173;clear BK134;clear BK138;clear HR170;clear HB;have HO_5:=n0_;have HO_8:=n1_;have HO_59:=n2_;have HO173:=n3_;have HO177:=n4_;have BK134:=n5_;have BK138:=n6_;have HR170:=n7_;have HB:=n8_;clear n0_ n1_ n2_ n3_ n4_ n5_ n6_ n7_ n8_;(try clear hb);(try clear hb2);(try clear hk);(try clear hi);(try clear ho0);obtain ⟨Ao78,co78,eo78⟩:=Kd.R_slice HO177.out
       (first|subst eo78|(injection eo78 with f1_ f2_ f3_;have f4_:=f1_.symm;have f5_:=f3_.symm;clear f1_ f2_ f3_;subst f4_;subst f5_))
       refine hK.out _ _ ?_;clear hK K
       refine norm_ (a':=?_) ?_ ?_;rotate_left;(show Act.put _ (some 84) _=_;simp only [Act.put,q1_,q2_,q3_,i64_w,i32_w];rfl)
       refine last_ (i:=9) (N:=some 85) #[Y,Y,Y,Y,Y,Y,Y,Y,Y,Y,Z,Z,Z,Z,Z,Z,Z] rfl rfl (one_of HT_.out (by kernel_rfl)) (by decide) (fun K hK=>?_)
       refine goes_ Try.func28 (by kernel_rfl) rfl #[.slice A72 y167.length c72,.slice Ao78 t175.length co78] (by rfl) rfl rfl (by (try simp only [List.map_toArray,List.map_cons,List.map_nil]);first|done|rfl|(simp only [List.length_drop,List.length_take];rfl)) ?_
       with_reducible refine (pack_Take.calls _ _ y167 _ _ t175 t178 t179 t180 _ ?side1 ?side2 ?side3 ?side4 A69.out).mono ?_
       (case side1=>repeat (first|exact (by repeat (first|(with_reducible exact HR170.out)|(with_reducible refine Kd.C_alloc ?_ _)|(with_reducible refine Kd.C_drewN ?_ _)|(with_reducible refine Kd.C_drew ?_)|exact HR170.out))|(with_reducible refine Kd.C_alloc ?_ _)|(with_reducible refine Kd.C_drewN ?_ _)|(with_reducible refine Kd.C_drew ?_)))
       (case side2=>exact HC170.out)
       (case side3=>repeat (first|exact (Kd.R_reads' HO177.out).2.2|(with_reducible refine Kd.C_alloc ?_ _)|(with_reducible refine Kd.C_drewN ?_ _)|(with_reducible refine Kd.C_drew ?_)))
       (case side4=>exact (Kd.R_reads' HO177.out).2.1)
       rintro e w79 ⟨v181,rfl,ho0,hb⟩;refine ⟨_,rfl,?_⟩
       have n0_:=A_ (Kd.Q_below (by (with_reducible repeat (first|apply Kd.Q_alloc|apply Kd.Q_drewN|apply Kd.Q_drew));exact HO_5.out) hb)
       have n1_:=A_ (Kd.R_elder' (by (with_reducible repeat (first|apply ra_|apply rn_|apply re_));exact HO_8.out) (Kd.R_base ho0) hb)
       have n2_:=A_ (Kd.R_below (by (with_reducible repeat (first|apply ra_|apply rn_|apply re_));exact HO_59.out) hb)
       have n3_:=A_ (Kd.R_below (by (with_reducible repeat (first|apply ra_|apply rn_|apply re_));exact HO173.out) hb)
       have n4_:=A_ (Kd.R_below (by (with_reducible repeat (first|apply ra_|apply rn_|apply re_));exact HO177.out) hb)
       have n5_:=A_ (Kd.R_lower (Kd.R_new' (Kd.R_newM (M:=fun k_=>(w.heap.size≤k_)) ho0 (bz_ (hb2_ HB.out GE134.out GE138.out)) (fun k_ h_=>h_)) (Kd.R_lt (by (with_reducible repeat (first|apply ra_|apply rn_|apply re_));exact HO_8.out))) (bz_ (hb2_ HB.out GE134.out GE138.out)))
       have n6_:=A_ (bx_ BK134.out kf_ hb);have n7_:=A_ (bx_ BK138.out kf_ hb)
       have n8_:=A_ (Kd.C_below (by repeat (first|(with_reducible exact HR170.out)|(with_reducible refine Kd.C_alloc ?_ _)|(with_reducible refine Kd.C_drewN ?_ _)|(with_reducible refine Kd.C_drew ?_)|exact HR170.out)) hb)
       have n9_:=A_ (bp_ (hb2_ HB.out GE134.out GE138.out) hb);clear HO_5;clear HO_8;clear HO_59;clear HO173;clear HO177;clear BK134;clear BK138;clear HR170;clear HB;have HO_5:=n0_;have HO_8:=n1_;have HO_59:=n2_;have HO173:=n3_;have HO177:=n4_;have HO182:=n5_;have BK134:=n6_;have BK138:=n7_;have HR170:=n8_;have HB:=n9_;clear n0_ n1_ n2_ n3_ n4_ n5_ n6_ n7_ n8_ n9_;(try clear hb);(try clear hb2);(try clear hk);(try clear hi);(try clear ho0);refine hK.out _ _ ?_;clear hK K
       refine norm_ (a':=?_) ?_ ?_;rotate_left;(show Act.put _ (some 85) _=_;simp only [Act.put,q1_,q2_,q3_,i64_w,i32_w];rfl)
       refine pu_ (i:=10) (N:=some 75) (v:=?_) (a':=?_) #[Y,Y,Y,Y,Y,Y,Y,Y,Y,Y,Y,Z,Z,Z,Z,Z,Z] rfl rfl HT_.out (by kernel_rfl) (fun _ _ _ h=>h) (by rfl) ?_ ?_ ?_;rotate_left;(intro w';go_simp;with_reducible rfl);rotate_left;(simp only [Act.put,q1_,q2_,q3_,i64_w,i32_w];rfl)
       refine pu_ (i:=11) (N:=some 86) (v:=?_) (a':=?_) #[Y,Y,Y,Y,Y,Y,Y,Y,Y,Y,Y,Y,Z,Z,Z,Z,Z] rfl rfl HT_.out (by kernel_rfl) (fun _ _ _ h=>h) (by rfl) ?_ ?_ ?_;rotate_left;(intro w';go_simp;with_reducible rfl);rotate_left;(simp only [Act.put,q1_,q2_,q3_,i64_w,i32_w];rfl)
       refine pu_ (i:=12) (N:=some 87) (v:=?_) (a':=?_) #[Y,Y,Y,Y,Y,Y,Y,Y,Y,Y,Y,Y,Y,Z,Z,Z,Z] rfl rfl HT_.out (by kernel_rfl) (fun _ _ _ h=>h) (by rfl) ?_ ?_ ?_;rotate_left;(intro w';go_simp;with_reducible rfl);rotate_left;(simp only [Act.put,q1_,q2_,q3_,i64_w,i32_w];rfl)
       refine pu_ (i:=13) (N:=some 88) (v:=?_) (a':=?_) #[Y,Y,Y,Y,Y,Y,Y,Y,Y,Y,Y,Y,Y,Y,Z,Z,Z] rfl rfl HT_.out (by kernel_rfl) (fun _ _ _ h=>h) (by rfl) ?_ ?_ ?_;rotate_left;(intro w';go_simp;with_reducible rfl);rotate_left;(simp only [Act.put,q1_,q2_,q3_,i64_w,i32_w];rfl)
       refine pu_ (i:=14) (N:=some 11) (v:=?_) (a':=?_) #[Y,Y,Y,Y,Y,Y,Y,Y,Y,Y,Y,Y,Y,Y,Y,Z,Z] rfl rfl HT_.out (by kernel_rfl) (fun _ _ _ h=>h) (by rfl) ?_ ?_ ?_;rotate_left;(intro w';go_simp;with_reducible rfl);rotate_left;(simp only [Act.put,q1_,q2_,q3_,i64_w,i32_w];rfl)
       refine pu_ (i:=15) (N:=some 12) (v:=?_) (a':=?_) #[Y,Y,Y,Y,Y,Y,Y,Y,Y,Y,Y,Y,Y,Y,Y,Y,Z] rfl rfl HT_.out (by kernel_rfl) (fun _ _ _ h=>h) (by rfl) ?_ ?_ ?_;rotate_left;(intro w';go_simp;with_reducible rfl);rotate_left;(simp only [Act.put,q1_,q2_,q3_,i64_w,i32_w];rfl)
       refine pu_ (i:=16) (N:=some 6) (v:=?_) (a':=?_) #[Y,Y,Y,Y,Y,Y,Y,Y,Y,Y,Y,Y,Y,Y,Y,Y,Y] rfl rfl HT_.out (by kernel_rfl) (fun _ _ _ h=>h) (by rfl) ?_ ?_ ?_;rotate_left;(intro w';go_simp;with_reducible rfl);rotate_left;(simp only [Act.put,q1_,q2_,q3_,i64_w,i32_w];rfl)
       refine done_ (done_of HT_.out (by kernel_rfl)) ?_
       go_upto_region 19 with (fail)
       go_cut [99] (fun v99 wc=>∃ (kq : Nat) (x99_69 : Bool),v99=.bool x99_69∧Aside0 (leaf_Decode.j3 kq t178 x99_69 x59_3=some (r1,r2,r3))∧Aside0 (kq≤k3)∧Aside0 (Kd.R k56 56 wc w.heap.size (fun k_=>(w.heap.size≤k_)) v181 t178)∧Aside0 (Kd.R (Kd.int .i64) 3 wc w.heap.size (fun k_=>(w.heap.size≤k_)) (.slice Ao21 x59_3.length co21) x59_3)∧Aside0 (wc.heap[gb134]?=some (.cells #[(.slice none 0 0),(.slice none 0 0)] 27 (0,0)))∧Aside0 (wc.heap[gb138]?=some (.cells #[(.slice Ao21 x59_3.length co21),(.slice none 0 0)] 27 (0,0)))∧Aside0 (Below w.heap.size w wc))
       case first =>
        have H:=HC70.out;clear HC70
        by_cases c80 : t180=0
        rotate_left
        ·rw [if_neg c80] at H
         have c80b0 : (t180 == 0)=false:=beq_eq_false_iff_ne.mpr c80;have c80b1 : (t180 != 0)=true:=bne_iff_ne.mpr c80;(first|rw [c80b0]|(simp only [i64_w,i32_w];rw [c80b0])|skip);have H':=A_ H;clear H;go_wp2;go_meet
         case rel=>exact ⟨_,true,rfl,H',⟨by have:=HJ16.out;have:=HJ33.out;have:=HK3.out;first|omega|exact Nat.le_refl _⟩,⟨by (try simp only [hl59_3]);(with_reducible repeat (first|apply ra_|apply rn_|apply re_));exact Kd.R_mono HO182.out (fun _ hk=>hk.1.1)⟩,⟨by (try simp only [hl59_3]);(with_reducible repeat (first|apply ra_|apply rn_|apply re_));exact Kd.R_mono HO_59.out (fun _ hk=>hk.1.1)⟩,⟨by (try simp only [hl59_3]);exact kk_ BK134.out⟩,⟨by (try simp only [hl59_3]);exact kk_ BK138.out⟩,⟨hb2_ HB.out GE134.out GE138.out⟩⟩
        rw [if_pos c80] at H
        have c80b0 : (t180 == 0)=true:=beq_iff_eq.mpr c80;have c80b1 : (t180 != 0)=false:=bne_eq_false_iff_eq.mpr c80;clear c80;(first|rw [c80b0]|(simp only [i64_w,i32_w];rw [c80b0])|skip)
        obtain ⟨ji81,hji81⟩ : ∃ j_ : Int,(wrap64 (t160 + t179))=j_:=⟨_,rfl⟩
        replace H : (if 0≤(ji81) then (if (ji81)≤(t140.length : Int) then ((leaf_nought.f (t140.drop ((ji81) : Int).toNat)).bind fun t187=>(leaf_Decode.j3 k3 t178 (!t187) x59_3)) else (none)) else (none))=some (r1,r2,r3):=by first|(rw [hji81] at H;exact H)|(simp only [hji81] at H ⊢;exact H)
        have hji81w : (IntKind.i64.wrap (t160 + t179))=ji81:=(i64_w _).trans hji81
        by_cases c82 : 0≤(ji81)
        rotate_left
        ·rw [if_neg c82] at H
         exact absurd H (by simp)
        rw [if_pos c82] at H
        have c82b0:=eq_true c82;have c82b1 : decide (0≤(ji81))=true:=dt_ c82;clear c82
        by_cases c83 : (ji81)≤(t140.length : Int)
        rotate_left
        ·rw [if_neg c83] at H
         exact absurd H (by simp)
        rw [if_pos c83] at H
        have c83b0:=eq_true c83;have c83b1 : decide ((ji81)≤(t140.length : Int))=true:=dt_ c83;(try (have c83b1h:=c83b1; simp only [hl59_3] at c83b1h));clear c83
        obtain ⟨y183,hy183⟩ : ∃ y_ : List Int,y_=(t140.drop ((ji81) : Int).toNat):=⟨_,rfl⟩
        replace H : ((leaf_nought.f y183).bind fun t187=>(leaf_Decode.j3 k3 t178 (!t187) x59_3))=some (r1,r2,r3):=by first|(rw [hy183];with_reducible exact H)|(have H2_:=(Option.bind_some _ _).symm.trans H;rw [hy183];with_reducible exact H2_)|(have H2_:=(Option.bind_some _ _).symm.trans H;with_reducible exact H2_)|with_reducible exact H|(rw [hy183];exact H)|exact H
        have Ny183:=A_ hy183;clear hy183;replace H:=Option.bind_eq_some_iff.mp H;obtain ⟨t187,A840,H⟩:=H;replace H : (leaf_Decode.j3 k3 t178 (!t187) x59_3)=some (r1,r2,r3):=H;have A84:=A_ A840;clear A840;have H':=A_ H;clear H
        have q85 : ((ji81) : Int)≤((t140.length : Int) : Int):=od_ (by first|(with_reducible assumption)|assumption)
        obtain ⟨i085,hi085,_,hsz85,_⟩:=info_parts info5;have hroom85 : t140.length≤co44:=(Kd.Q_reads' HO_5.out).2.1;have hC85 : Kd.C (Kd.int .u8) _ Ao44 t140.length t140:=(Kd.Q_reads' HO_5.out).2.2
        have q085 : (0 : Int)≤((ji81) : Int):=od_ (by first|(with_reducible assumption)|assumption)
        have hcut85:=cut_from (P:=Try.prog) 22 5 .i64 Try.underlying22 hi085 1 hsz85 Ao44 t140.length co44 (ji81) q085 q85
        have hr85:=Kd.C_drop (m:=((ji81) : Int).toNat) (c:=co44) hC85 (by omega) hroom85
        obtain ⟨A85,hA85⟩ : ∃ A1,A1=(if co44=((ji81) : Int).toNat then Ao44 else (Ao44 : Option Addr).map (·.add (((ji81) : Int).toNat * 1))):=⟨_,rfl⟩
        obtain ⟨c85,hc85⟩ : ∃ c1,c1=co44 - ((ji81) : Int).toNat:=⟨_,rfl⟩
        have hy85 : y183.length=t140.length - ((ji81) : Int).toNat:=(by rw [Ny183.out,List.length_drop] <;> omega)
        rw [show (t140).drop ((ji81) : Int).toNat=y183 from Ny183.out.symm] at hr85
        replace hr85 : Kd.C (Kd.int .u8) _ A85 y183.length y183:=(by rw [hA85];exact hr85)
        rw [← hy85,← hA85,← hc85] at hcut85;have HR186:=A_ hr85
        have HC186:=A_ (show y183.length≤c85 from by rw [hy85,hc85];exact Nat.sub_le_sub_right hroom85 _)
        clear hr85 hC85 hroom85 hi085 hsz85 hc85;have KY85:=A_ hy85;have KA85:=A_ hA85;clear hy85 hA85
        have KL85:=A_ (show ((ji81) : Int).toNat≤t140.length from by omega)
        replace q85:=eq_true q85
        go_wp2_with (first|(go_at_call 25;(with_reducible refine (leaf_nought.calls _ _ y183 t187 _ ?side1 ?side2 A84.out).mono ?_);(case side1=>repeat (first|exact (by repeat (first|(with_reducible exact HR186.out)|(with_reducible refine Kd.C_alloc ?_ _)|(with_reducible refine Kd.C_drewN ?_ _)|(with_reducible refine Kd.C_drew ?_)|exact HR186.out))|(with_reducible refine Kd.C_alloc ?_ _)|(with_reducible refine Kd.C_drewN ?_ _)|(with_reducible refine Kd.C_drew ?_)));(case side2=>exact HC186.out);rintro e w86 ⟨rfl,hb⟩;have n0_:=A_ (Kd.Q_below (by (with_reducible repeat (first|apply Kd.Q_alloc|apply Kd.Q_drewN|apply Kd.Q_drew));exact HO_5.out) hb);have n1_:=A_ (Kd.R_below (by (with_reducible repeat (first|apply ra_|apply rn_|apply re_));exact HO_8.out) hb);have n2_:=A_ (Kd.R_below (by (with_reducible repeat (first|apply ra_|apply rn_|apply re_));exact HO_59.out) hb);have n3_:=A_ (Kd.R_below (by (with_reducible repeat (first|apply ra_|apply rn_|apply re_));exact HO173.out) hb);have n4_:=A_ (Kd.R_below (by (with_reducible repeat (first|apply ra_|apply rn_|apply re_));exact HO177.out) hb);have n5_:=A_ (Kd.R_below (by (with_reducible repeat (first|apply ra_|apply rn_|apply re_));exact HO182.out) hb);have n6_:=A_ (bx_ BK134.out kf_ hb);have n7_:=A_ (bx_ BK138.out kf_ hb);have n8_:=A_ (Kd.C_below (by repeat (first|(with_reducible exact HR170.out)|(with_reducible refine Kd.C_alloc ?_ _)|(with_reducible refine Kd.C_drewN ?_ _)|(with_reducible refine Kd.C_drew ?_)|exact HR170.out)) hb);have n9_:=A_ (Kd.C_below (by repeat (first|(with_reducible exact HR186.out)|(with_reducible refine Kd.C_alloc ?_ _)|(with_reducible refine Kd.C_drewN ?_ _)|(with_reducible refine Kd.C_drew ?_)|exact HR186.out)) hb);have n10_:=A_ (bp_ (hb2_ HB.out GE134.out GE138.out) hb);clear HO_5;clear HO_8;clear HO_59;clear HO173;clear HO177;clear HO182;clear BK134;clear BK138;clear HR170;clear HR186;clear HB;have HO_5:=n0_;have HO_8:=n1_;have HO_59:=n2_;have HO173:=n3_;have HO177:=n4_;have HO182:=n5_;have BK134:=n6_;have BK138:=n7_;have HR170:=n8_;have HR186:=n9_;have HB:=n10_;clear n0_ n1_ n2_ n3_ n4_ n5_ n6_ n7_ n8_ n9_ n10_;(try clear hb);(try clear hb2);(try clear hk);(try clear hi)))
        go_meet
        case rel=>exact ⟨_,(!t187),(by first|rfl|(simp;done)|(simp [*];done)),H',⟨by have:=HJ16.out;have:=HJ33.out;have:=HK3.out;first|omega|exact Nat.le_refl _⟩,⟨by (try simp only [hl59_3]);(with_reducible repeat (first|apply ra_|apply rn_|apply re_));exact Kd.R_mono HO182.out (fun _ hk=>hk.1.1)⟩,⟨by (try simp only [hl59_3]);(with_reducible repeat (first|apply ra_|apply rn_|apply re_));exact Kd.R_mono HO_59.out (fun _ hk=>hk.1.1)⟩,⟨by (try simp only [hl59_3]);exact kk_ BK134.out⟩,⟨by (try simp only [hl59_3]);exact kk_ BK138.out⟩,⟨hb2_ HB.out GE134.out GE138.out⟩⟩
       case rest =>
        clear HC70;(try clear c1);(try clear p1);(try clear q1);(try clear hx1);(try clear qi1);(try clear c2);(try clear p2);(try clear c5);(try clear c6);(try clear p6);(try clear q6);(try clear hx6);(try clear hf6);(try clear c7);(try clear q7);(try clear c8);(try clear q8);(try clear p16);(try clear q16);(try clear hx16);(try clear p17);(try clear q17);(try clear hx17);(try clear qi17);(try clear c27);(try clear c28);(try clear c55);(try clear c55b0);(try clear c57);(try clear c57b0);(try clear c58);(try clear c58b0);(try clear c59);(try clear c59b0);(try clear c60);(try clear c60b0);(try clear p61);(try clear q61);(try clear hx61);(try clear hf61);(try clear p64);(try clear c65);(try clear c65b0);(try clear c65b1);(try clear c66);(try clear c66b0);(try clear c66b1);(try clear c67);(try clear c67b0);(try clear c67b1);(try clear c72);(try clear q72);(try clear c80);(try clear c80b0);(try clear c80b1);(try clear c82);(try clear c82b0);(try clear c82b1);(try clear c83);(try clear c83b0);(try clear c83b1);(try clear c85);(try clear q85);(try clear hx165_0);(try clear hx165_1);(try clear hx165_2);(try clear hx165_3);(try clear hx174_0);(try clear hx174_1);(try clear hx174_2);(try clear hx174_3);(try clear hx61_0);(try clear p165);(try clear p174);(try clear p61);(try clear q072);(try clear q085);(try clear q165);(try clear q174);(try clear q61);(try clear q72);(try clear q85);obtain ⟨kq,x99_69,rfl,HA,HJ69,HO_11,HO_139000,BK134,BK138,HB⟩:=hcut
        cases kq with
        | zero=>exact absurd HA.out (by simp [leaf_Decode.j3])
        | succ kj69 =>
         have H:=HA.out;clear HA
         simp only [leaf_Decode.j3] at H
         by_cases c87 : x99_69=true
         ·subst c87
          have H1 : (some (([] : List Int),([] : List (List Int)),4))=some (r1,r2,r3):=by rw [if_pos rfl] at H;exact H
          clear H;have H:=H1;clear H1
          simp only [Option.some.injEq,Prod.mk.injEq] at H
          obtain ⟨rfl,rfl,rfl⟩:=H;have hnb88:=NB134_138.out;have hnc88:=NB138_134.out;have z89_0 : wc.cell? ⟨gb134,0,none⟩=some (.slice none 0 0):=(bc_ BK134.out 0).trans rfl;have z89_1 : wc.cell? ⟨gb134,1,none⟩=some (.slice none 0 0):=(bc_ BK134.out 1).trans rfl;have y89_0:=bf_ BK134.out 0;have y89_1:=bf_ BK134.out 1;go_wp2
          refine bodyPost_ret (results_ct rfl _ _ gb134 27 #[.slice none 0 0,.slice none 0 0] (0,0) _ rfl (by refine kk_ ?_;refine blk_put (cs:=#[.slice none 0 0,.slice none 0 0]) ?_ 1 _ rfl;refine kk_ ?_;refine blk_put (cs:=#[.slice none 0 0,.slice none 0 0]) ?_ 0 _ rfl;exact kk_ BK134.out) Try.underlying27 rfl (by kernel_rfl)) rfl ?_
          exact ⟨_,_,by first|rfl|(simp [errW_none,errW_some] <;> rfl)|(simp [*,errW_none,errW_some] <;> rfl),by first|exact Kd.R_nil _ _ _ _ _|exact Kd.N_nil _ _ _ _ _|exact Kd.V_nil _ _ _ _ _|exact Kd.Q_nil _ _ _ _ _|exact Kd.S_nil _ _ _ _ _,by first|exact Kd.S_nil _ _ _ _ _|exact Kd.N_nil _ _ _ _ _|exact Kd.V_nil _ _ _ _ _|exact Kd.Q_nil _ _ _ _ _|exact Kd.R_nil _ _ _ _ _,hb2_ HB.out GE134.out GE138.out⟩
         replace c87:=Bool.eq_false_iff.mpr c87
         subst c87
         have H1 : (leaf_Decode.l1 kj69 t178 (t178.length : Int) 0 x59_3 ([] : List (List Int)))=some (r1,r2,r3):=by rw [if_neg (show ¬ (false=true) by decide)] at H;exact H
         clear H;have H:=H1;clear H1;have H':=A_ H;clear H;obtain ⟨Ao90,co90,eo90⟩:=Kd.R_slice HO_11.out;subst eo90;go_wp2
         go_loopg [103] kj69 (fun kq v103 w'=>∃ (x103_5 : Int) (x139001_5 : List (List Int)) (u139001 : Value),v103=.int .i64 x103_5∧Aside0 (leaf_Decode.l1 kq t178 (t178.length : Int) x103_5 x59_3 x139001_5=some (r1,r2,r3))∧Aside0 (kq≤kj69)∧Aside0 (Kd.R k56 56 w' w.heap.size (fun k_=>(w.heap.size≤k_)) (.slice Ao90 t178.length co90) t178)∧Aside0 (Kd.R (Kd.int .i64) 3 w' w.heap.size (fun k_=>(w.heap.size≤k_)) (.slice Ao21 x59_3.length co21) x59_3)∧Aside0 (Kd.N (Kd.slice 5 (Kd.int .u8)) 22 w' w.heap.size (fun k_=>(w.heap.size≤k_)∧some k_≠((.slice Ao90 t178.length co90) : Value).ownBlock∧some k_≠((.slice Ao21 x59_3.length co21) : Value).ownBlock∧k_≠gb134∧k_≠gb138) u139001 x139001_5)∧Aside0 (w'.heap[gb134]?=some (.cells #[(.slice none 0 0),(.slice none 0 0)] 27 (0,0)))∧Aside0 (w'.heap[gb138]?=some (.cells #[(.slice Ao21 x59_3.length co21),u139001] 27 (0,0)))∧Aside0 (Below w.heap.size w w'))
         case atStart=>exact ⟨(0),(([] : List (List Int))),(.slice none 0 0),(by first|rfl|(simp;done)|(simp [*];done)),H',⟨Nat.le_refl _⟩,⟨by (try simp only [hl59_3]);(with_reducible repeat (first|apply ra_|apply rn_|apply re_));exact HO_11.out⟩,⟨by (try simp only [hl59_3]);(with_reducible repeat (first|apply ra_|apply rn_|apply re_));exact HO_139000.out⟩,⟨by (try simp only [hl59_3]);first|exact Kd.S_nil _ _ _ _ _|exact Kd.N_nil _ _ _ _ _|exact Kd.V_nil _ _ _ _ _|exact Kd.Q_nil _ _ _ _ _|exact Kd.R_nil _ _ _ _ _⟩,⟨by (try simp only [hl59_3]);exact kk_ BK134.out⟩,⟨by (try simp only [hl59_3]);exact kk_ BK138.out⟩,⟨hb2_ HB.out GE134.out GE138.out⟩⟩
         case round =>
          clear H';(try clear c1);(try clear p1);(try clear q1);(try clear hx1);(try clear qi1);(try clear c2);(try clear p2);(try clear c5);(try clear c6);(try clear p6);(try clear q6);(try clear hx6);(try clear hf6);(try clear c7);(try clear q7);(try clear c8);(try clear q8);(try clear p16);(try clear q16);(try clear hx16);(try clear p17);(try clear q17);(try clear hx17);(try clear qi17);(try clear c27);(try clear c28);(try clear c55);(try clear c55b0);(try clear c57);(try clear c57b0);(try clear c58);(try clear c58b0);(try clear c59);(try clear c59b0);(try clear c60);(try clear c60b0);(try clear p61);(try clear q61);(try clear hx61);(try clear hf61);(try clear p64);(try clear c65);(try clear c65b0);(try clear c65b1);(try clear c66);(try clear c66b0);(try clear c66b1);(try clear c67);(try clear c67b0);(try clear c67b1);(try clear c72);(try clear q72);(try clear c80);(try clear c80b0);(try clear c80b1);(try clear c82);(try clear c82b0);(try clear c82b1);(try clear c83);(try clear c83b0);(try clear c83b1);(try clear c85);(try clear q85);(try clear c87);(try clear c88);(try clear hx165_0);(try clear hx165_1);(try clear hx165_2);(try clear hx165_3);(try clear hx174_0);(try clear hx174_1);(try clear hx174_2);(try clear hx174_3);(try clear hx61_0);(try clear p1);(try clear p16);(try clear p165);(try clear p17);(try clear p174);(try clear p2);(try clear p6);(try clear p61);(try clear p64);(try clear q072);(try clear q085);(try clear q1);(try clear q16);(try clear q165);(try clear q17);(try clear q174);(try clear q6);(try clear q61);(try clear q7);(try clear q72);(try clear q8);(try clear q85);(try clear z89_0 z89_1 y89_0 y89_1)
          obtain ⟨x103_5,x139001_5,u139001,rfl,HA,HK5,HO_101,HO_139000,HO_139001,BK134,BK138,HB⟩:=hrel
          cases gk with
          | zero=>exact absurd HA.out (by simp [leaf_Decode.l1])
          | succ k5 =>
           have H:=HA.out;clear HA
           simp only [leaf_Decode.l1] at H
           have HC91:=A_ H;clear H
           go_upto_region 22 with (fail)
           go_cut [104] (fun v104 wc=>∃ (kq : Nat) (x104_90 : Bool),v104=.bool x104_90∧Aside0 (leaf_Decode.j5 kq t178 (t178.length : Int) x103_5 x104_90 x59_3 x139001_5=some (r1,r2,r3))∧Aside0 (kq≤k5)∧Aside0 (Kd.R k56 56 wc w.heap.size (fun k_=>(w.heap.size≤k_)) (.slice Ao90 t178.length co90) t178)∧Aside0 (Kd.R (Kd.int .i64) 3 wc w.heap.size (fun k_=>(w.heap.size≤k_)) (.slice Ao21 x59_3.length co21) x59_3)∧Aside0 (Kd.N (Kd.slice 5 (Kd.int .u8)) 22 wc w.heap.size (fun k_=>(w.heap.size≤k_)∧some k_≠((.slice Ao90 t178.length co90) : Value).ownBlock∧some k_≠((.slice Ao21 x59_3.length co21) : Value).ownBlock∧k_≠gb134∧k_≠gb138) u139001 x139001_5)∧Aside0 (wc.heap[gb134]?=some (.cells #[(.slice none 0 0),(.slice none 0 0)] 27 (0,0)))∧Aside0 (wc.heap[gb138]?=some (.cells #[(.slice Ao21 x59_3.length co21),u139001] 27 (0,0)))∧Aside0 (Below w.heap.size w wc))
           case first =>
            have H:=HC91.out;clear HC91;have H':=A_ H;clear H;go_wp2;go_meet
            case rel=>exact ⟨_,(decide (x103_5<(t178.length : Int))),(by first|rfl|(simp;done)|(simp [*];done)),H',⟨by have:=HJ16.out;have:=HJ33.out;have:=HK3.out;have:=HJ69.out;have:=HK5.out;first|omega|exact Nat.le_refl _⟩,⟨by (try simp only [hl59_3]);(with_reducible repeat (first|apply ra_|apply rn_|apply re_));exact HO_101.out⟩,⟨by (try simp only [hl59_3]);(with_reducible repeat (first|apply ra_|apply rn_|apply re_));exact HO_139000.out⟩,⟨by (try simp only [hl59_3]);(with_reducible repeat (first|apply Kd.N_alloc|apply Kd.N_drewN|apply Kd.N_drew));exact HO_139001.out⟩,⟨by (try simp only [hl59_3]);exact kk_ BK134.out⟩,⟨by (try simp only [hl59_3]);exact kk_ BK138.out⟩,⟨hb2_ HB.out GE134.out GE138.out⟩⟩
           case rest =>
            clear HC91;(try clear c1);(try clear p1);(try clear q1);(try clear hx1);(try clear qi1);(try clear c2);(try clear p2);(try clear c5);(try clear c6);(try clear p6);(try clear q6);(try clear hx6);(try clear hf6);(try clear c7);(try clear q7);(try clear c8);(try clear q8);(try clear p16);(try clear q16);(try clear hx16);(try clear p17);(try clear q17);(try clear hx17);(try clear qi17);(try clear c27);(try clear c28);(try clear c55);(try clear c55b0);(try clear c57);(try clear c57b0);(try clear c58);(try clear c58b0);(try clear c59);(try clear c59b0);(try clear c60);(try clear c60b0);(try clear p61);(try clear q61);(try clear hx61);(try clear hf61);(try clear p64);(try clear c65);(try clear c65b0);(try clear c65b1);(try clear c66);(try clear c66b0);(try clear c66b1);(try clear c67);(try clear c67b0);(try clear c67b1);(try clear c72);(try clear q72);(try clear c80);(try clear c80b0);(try clear c80b1);(try clear c82);(try clear c82b0);(try clear c82b1);(try clear c83);(try clear c83b0);(try clear c83b1);(try clear c85);(try clear q85);(try clear c87);(try clear c88);(try clear hx165_0);(try clear hx165_1);(try clear hx165_2);(try clear hx165_3);(try clear hx174_0);(try clear hx174_1);(try clear hx174_2);(try clear hx174_3);(try clear hx61_0);(try clear p1);(try clear p16);(try clear p165);(try clear p17);(try clear p174);(try clear p2);(try clear p6);(try clear p61);(try clear p64);(try clear q072);(try clear q085);(try clear q1);(try clear q16);(try clear q165);(try clear q17);(try clear q174);(try clear q6);(try clear q61);(try clear q7);(try clear q72);(try clear q8);(try clear q85);(try clear z89_0 z89_1 y89_0 y89_1)
            obtain ⟨kq,x104_90,rfl,HA,HJ90,HO_101,HO_139000,HO_139001,BK134,BK138,HB⟩:=hcut
            cases kq with
            | zero=>exact absurd HA.out (by simp [leaf_Decode.j5])
            | succ kj90 =>
             have H:=HA.out;clear HA
             simp only [leaf_Decode.j5] at H
             by_cases c92 : x104_90=true
             rotate_left
             ·replace c92:=Bool.eq_false_iff.mpr c92
              subst c92
              have H1 : ((leaf_Check.f kj90 x59_3 x139001_5).bind fun t196=>(if t196=0 then (some (x59_3,x139001_5,0)) else (some (([] : List Int),([] : List (List Int)),4))))=some (r1,r2,r3):=by rw [if_neg (show ¬ (false=true) by decide)] at H;exact H
              clear H;have H:=H1;clear H1;replace H:=Option.bind_eq_some_iff.mp H;obtain ⟨t196,A1090,H⟩:=H
              replace H : (if t196=0 then (some (x59_3,x139001_5,0)) else (some (([] : List Int),([] : List (List Int)),4)))=some (r1,r2,r3):=H
              have A109:=A_ A1090;clear A1090
              by_cases c110 : t196=0
              rotate_left
              ·rw [if_neg c110] at H
               have c110b0 : (t196 == 0)=false:=beq_eq_false_iff_ne.mpr c110;have c110b1 : (t196 != 0)=true:=bne_iff_ne.mpr c110
               simp only [Option.some.injEq,Prod.mk.injEq] at H
               obtain ⟨rfl,rfl,rfl⟩:=H;have hnb117:=NB138_134.out;have hnc117:=NB134_138.out;have z118_0 : wc.cell? ⟨gb138,0,none⟩=some (.slice Ao21 x59_3.length co21):=(bc_ BK138.out 0).trans rfl;have z118_1 : wc.cell? ⟨gb138,1,none⟩=some (u139001):=(bc_ BK138.out 1).trans rfl;have y118_0:=bf_ BK138.out 0;have y118_1:=bf_ BK138.out 1;obtain ⟨Ao119,co119,eo119⟩:=Kd.N_slice HO_139001.out;subst eo119
               go_wp2_with (first|((with_reducible refine gate_callee (f:=21) rfl ?_);refine goesL_ (some 117) rfl rfl Try.func21 (by kernel_rfl) rfl #[.agg #[.slice Ao21 x59_3.length co21,.slice Ao119 x139001_5.length co119]] rfl (by (try simp only [List.map_toArray,List.map_cons,List.map_nil]);first|done|rfl|(simp only [List.length_drop,List.length_take];rfl)) ?_;(with_reducible refine (leaf_Check.calls kj90 _ _ x59_3 _ _ x139001_5 t196 _ ?side1 ?side2 ?side3 ?side4 A109.out).mono ?_);(case side1=>repeat (first|exact (Kd.R_reads' HO_139000.out).2.2|(with_reducible refine Kd.C_alloc ?_ _)|(with_reducible refine Kd.C_drewN ?_ _)|(with_reducible refine Kd.C_drew ?_)));(case side2=>exact (Kd.R_reads' HO_139000.out).2.1);(case side3=>repeat (first|exact (Kd.N_reads' HO_139001.out).2.2|(with_reducible refine Kd.C_alloc ?_ _)|(with_reducible refine Kd.C_drewN ?_ _)|(with_reducible refine Kd.C_drew ?_)));(case side4=>exact (Kd.N_reads' HO_139001.out).2.1);rintro e w120 ⟨rfl,hb⟩;refine ⟨_,rfl,?_⟩;have n0_:=A_ (Kd.R_below (by (with_reducible repeat (first|apply ra_|apply rn_|apply re_));exact HO_101.out) hb);have n1_:=A_ (Kd.R_below (by (with_reducible repeat (first|apply ra_|apply rn_|apply re_));exact HO_139000.out) hb);have n2_:=A_ (Kd.N_below (by (with_reducible repeat (first|apply Kd.N_alloc|apply Kd.N_drewN|apply Kd.N_drew));exact HO_139001.out) hb);have n3_:=A_ (bx_ BK134.out kf_ hb);have n4_:=A_ (bx_ BK138.out kf_ hb);have n5_:=A_ (bp_ (hb2_ HB.out GE134.out GE138.out) hb);clear HO_101;clear HO_139000;clear HO_139001;clear BK134;clear BK138;clear HB;have HO_101:=n0_;have HO_139000:=n1_;have HO_139001:=n2_;have BK134:=n3_;have BK138:=n4_;have HB:=n5_;clear n0_ n1_ n2_ n3_ n4_ n5_;(try clear hb);(try clear hb2);(try clear hk);(try clear hi);have z121_0 : w120.cell? ⟨gb134,0,none⟩=some (.slice none 0 0):=(bc_ BK134.out 0).trans rfl;have z121_1 : w120.cell? ⟨gb134,1,none⟩=some (.slice none 0 0):=(bc_ BK134.out 1).trans rfl;have y121_0:=bf_ BK134.out 0;have y121_1:=bf_ BK134.out 1))
               refine bodyPost_ret (results_ct rfl _ _ gb134 27 #[.slice none 0 0,.slice none 0 0] (0,0) _ rfl (by refine kk_ ?_;refine blk_put (cs:=#[.slice none 0 0,.slice none 0 0]) ?_ 1 _ rfl;refine kk_ ?_;refine blk_put (cs:=#[.slice none 0 0,.slice none 0 0]) ?_ 0 _ rfl;exact kk_ BK134.out) Try.underlying27 rfl (by kernel_rfl)) rfl ?_
               exact ⟨_,_,by first|rfl|(simp [errW_none,errW_some] <;> rfl)|(simp [*,errW_none,errW_some] <;> rfl),by first|exact Kd.R_nil _ _ _ _ _|exact Kd.N_nil _ _ _ _ _|exact Kd.V_nil _ _ _ _ _|exact Kd.Q_nil _ _ _ _ _|exact Kd.S_nil _ _ _ _ _,by first|exact Kd.S_nil _ _ _ _ _|exact Kd.N_nil _ _ _ _ _|exact Kd.V_nil _ _ _ _ _|exact Kd.Q_nil _ _ _ _ _|exact Kd.R_nil _ _ _ _ _,hb2_ HB.out GE134.out GE138.out⟩
              rw [if_pos c110] at H
              have c110b0 : (t196 == 0)=true:=beq_iff_eq.mpr c110;have c110b1 : (t196 != 0)=false:=bne_eq_false_iff_eq.mpr c110;clear c110
              simp only [Option.some.injEq,Prod.mk.injEq] at H
              obtain ⟨rfl,rfl,rfl⟩:=H;have hnb111:=NB138_134.out;have hnc111:=NB134_138.out;have z112_0 : wc.cell? ⟨gb138,0,none⟩=some (.slice Ao21 x59_3.length co21):=(bc_ BK138.out 0).trans rfl;have z112_1 : wc.cell? ⟨gb138,1,none⟩=some (u139001):=(bc_ BK138.out 1).trans rfl;have y112_0:=bf_ BK138.out 0;have y112_1:=bf_ BK138.out 1;obtain ⟨Ao113,co113,eo113⟩:=Kd.N_slice HO_139001.out;subst eo113
              go_wp2_with (first|((with_reducible refine gate_callee (f:=21) rfl ?_);refine goesL_ (some 117) rfl rfl Try.func21 (by kernel_rfl) rfl #[.agg #[.slice Ao21 x59_3.length co21,.slice Ao113 x139001_5.length co113]] rfl (by (try simp only [List.map_toArray,List.map_cons,List.map_nil]);first|done|rfl|(simp only [List.length_drop,List.length_take];rfl)) ?_;(with_reducible refine (leaf_Check.calls kj90 _ _ x59_3 _ _ x139001_5 t196 _ ?side1 ?side2 ?side3 ?side4 A109.out).mono ?_);(case side1=>repeat (first|exact (Kd.R_reads' HO_139000.out).2.2|(with_reducible refine Kd.C_alloc ?_ _)|(with_reducible refine Kd.C_drewN ?_ _)|(with_reducible refine Kd.C_drew ?_)));(case side2=>exact (Kd.R_reads' HO_139000.out).2.1);(case side3=>repeat (first|exact (Kd.N_reads' HO_139001.out).2.2|(with_reducible refine Kd.C_alloc ?_ _)|(with_reducible refine Kd.C_drewN ?_ _)|(with_reducible refine Kd.C_drew ?_)));(case side4=>exact (Kd.N_reads' HO_139001.out).2.1);rintro e w114 ⟨rfl,hb⟩;refine ⟨_,rfl,?_⟩;have n0_:=A_ (Kd.R_below (by (with_reducible repeat (first|apply ra_|apply rn_|apply re_));exact HO_101.out) hb);have n1_:=A_ (Kd.R_below (by (with_reducible repeat (first|apply ra_|apply rn_|apply re_));exact HO_139000.out) hb);have n2_:=A_ (Kd.N_below (by (with_reducible repeat (first|apply Kd.N_alloc|apply Kd.N_drewN|apply Kd.N_drew));exact HO_139001.out) hb);have n3_:=A_ (bx_ BK134.out kf_ hb);have n4_:=A_ (bx_ BK138.out kf_ hb);have n5_:=A_ (bp_ (hb2_ HB.out GE134.out GE138.out) hb);clear HO_101;clear HO_139000;clear HO_139001;clear BK134;clear BK138;clear HB;have HO_101:=n0_;have HO_139000:=n1_;have HO_139001:=n2_;have BK134:=n3_;have BK138:=n4_;have HB:=n5_;clear n0_ n1_ n2_ n3_ n4_ n5_;(try clear hb);(try clear hb2);(try clear hk);(try clear hi);have z115_0 : w114.cell? ⟨gb138,0,none⟩=some (.slice Ao21 x59_3.length co21):=(bc_ BK138.out 0).trans rfl;have z115_1 : w114.cell? ⟨gb138,1,none⟩=some (.slice Ao113 x139001_5.length co113):=(bc_ BK138.out 1).trans rfl;have y115_0:=bf_ BK138.out 0;have y115_1:=bf_ BK138.out 1;have z116_0 : w114.cell? ⟨gb134,0,none⟩=some (.slice none 0 0):=(bc_ BK134.out 0).trans rfl;have z116_1 : w114.cell? ⟨gb134,1,none⟩=some (.slice none 0 0):=(bc_ BK134.out 1).trans rfl;have y116_0:=bf_ BK134.out 0;have y116_1:=bf_ BK134.out 1))
              refine bodyPost_ret (results_ct rfl _ _ gb134 27 #[.slice Ao21 x59_3.length co21,.slice Ao113 x139001_5.length co113] (0,0) _ rfl (by refine kk_ ?_;refine blk_put (cs:=#[.slice Ao21 x59_3.length co21,.slice none 0 0]) ?_ 1 _ rfl;refine kk_ ?_;refine blk_put (cs:=#[.slice none 0 0,.slice none 0 0]) ?_ 0 _ rfl;exact kk_ BK134.out) Try.underlying27 rfl (by kernel_rfl)) rfl ?_
              exact ⟨_,_,by first|rfl|(simp [errW_none,errW_some] <;> rfl)|(simp [*,errW_none,errW_some] <;> rfl),by (with_reducible repeat (first|apply ra_|apply rn_|apply re_));exact Kd.R_mono (rf_ (p:=⟨gb134,1,none⟩) (rf_ (p:=⟨gb134,0,none⟩) (Kd.R_types HO_139000.out BK134.out (by decide)) (fun _ hk=>hk.2) (.slice Ao21 x59_3.length co21)) (fun _ hk=>hk.2) (.slice Ao113 x139001_5.length co113)) (fun _ hk=>hk.1),by (with_reducible repeat (first|apply Kd.N_alloc|apply Kd.N_drewN|apply Kd.N_drew));exact Kd.N_mono (Kd.N_far (p:=⟨gb134,1,none⟩) (Kd.N_far (p:=⟨gb134,0,none⟩) (Kd.N_mono HO_139001.out (fun k_ hk=>(⟨hk,hk.2.2.2.1⟩ : _∧k_≠gb134))) (fun _ hk=>hk.2) (.slice Ao21 x59_3.length co21)) (fun _ hk=>hk.2) (.slice Ao113 x139001_5.length co113)) (fun _ hk=>⟨hk.1.1,hk.1.2.2.1⟩),hb2_ HB.out GE134.out GE138.out⟩
             subst c92
             have H1 : (if 0≤x103_5 then (if x103_5<(t178.length : Int) then (if (((rd_T56 t178 x103_5).f3) : ByteArray).size≤1000000 then (if x139001_5.length<5864062014805 then (leaf_Decode.l1 kj90 t178 (t178.length : Int) (wrap64 (x103_5 + 1)) x59_3 (x139001_5++[(bytesOf ((rd_T56 t178 x103_5).f3))])) else (none)) else (none)) else (none)) else (none))=some (r1,r2,r3):=by rw [if_pos rfl] at H;exact H
             clear H;have H:=H1;clear H1
             by_cases c93 : 0≤x103_5
             rotate_left
             ·rw [if_neg c93] at H
              exact absurd H (by simp)
             rw [if_pos c93] at H
             have c93b0 : decide (0≤x103_5)=true:=dt_ c93;clear c93
             by_cases c94 : x103_5<(t178.length : Int)
             rotate_left
             ·rw [if_neg c94] at H
              exact absurd H (by simp)
             rw [if_pos c94] at H
             have c94b0 : decide (x103_5<(t178.length : Int))=true:=dt_ c94;(try (have c94b0h:=c94b0; simp only [hl59_3] at c94b0h));clear c94
             by_cases c95 : (((rd_T56 t178 x103_5).f3) : ByteArray).size≤1000000
             rotate_left
             ·rw [if_neg c95] at H
              exact absurd H (by simp)
             rw [if_pos c95] at H
             have c95b0:=eq_true c95;have c95b1 : decide ((((rd_T56 t178 x103_5).f3) : ByteArray).size≤1000000)=true:=dt_ c95;clear c95
             obtain ⟨y190,hy190⟩ : ∃ y_ : List Int,y_=(bytesOf ((rd_T56 t178 x103_5).f3)):=⟨_,rfl⟩
             replace H : (if x139001_5.length<5864062014805 then (leaf_Decode.l1 kj90 t178 (t178.length : Int) (wrap64 (x103_5 + 1)) x59_3 (x139001_5++[y190])) else (none))=some (r1,r2,r3):=by first|(rw [hy190];with_reducible exact H)|(have H2_:=(Option.bind_some _ _).symm.trans H;rw [hy190];with_reducible exact H2_)|(have H2_:=(Option.bind_some _ _).symm.trans H;with_reducible exact H2_)|with_reducible exact H|(rw [hy190];exact H)|exact H
             have Ny190:=A_ hy190;clear hy190
             by_cases c96 : x139001_5.length<5864062014805
             rotate_left
             ·rw [if_neg c96] at H
              exact absurd H (by simp)
             rw [if_pos c96] at H
             have LMc96:=A_ c96;clear c96
             obtain ⟨y193,hy193⟩ : ∃ y_ : List (List Int),y_=(x139001_5++[y190]):=⟨_,rfl⟩
             replace H : (leaf_Decode.l1 kj90 t178 (t178.length : Int) (wrap64 (x103_5 + 1)) x59_3 y193)=some (r1,r2,r3):=by first|(rw [hy193];with_reducible exact H)|(have H2_:=(Option.bind_some _ _).symm.trans H;rw [hy193];with_reducible exact H2_)|(have H2_:=(Option.bind_some _ _).symm.trans H;with_reducible exact H2_)|with_reducible exact H|(rw [hy193];exact H)|exact H
             have Ny193:=A_ hy193;clear hy193;have H':=A_ H;clear H
             have p188 : 0≤(x103_5 : Int):=od_ (by first|(with_reducible assumption)|assumption)
             have q188 : x103_5<(t178.length : Int):=od_ (by first|(with_reducible assumption)|assumption)
             obtain ⟨ad188,e188,hx188_0,hx188_1,hx188_2,hx188_3⟩:=at_T56 (Kd.R_reads' HO_101.out).2.2 x103_5 p188 q188
             cases e188
             replace p188:=eq_true p188;replace q188:=eq_true q188
             go_wp2_with (first|((with_reducible refine gate_dst (N:=14) rfl ?_);refine box_event ?hg (N:=14) ?hd (cs:=#[.int .i64 0,.int .i64 0,.float .f64 0,.string (⟨#[]⟩ : ByteArray)]) (t:=56) ?hr ?_;(case hd=>rfl);(case hg=>rfl);(case hr=>first|(go_simp;done)|(go_simp;rfl));intro gb189 hg w97 hbox hb;have n0_:=A_ (Kd.R_below (Kd.R_elderB (by (with_reducible repeat (first|apply ra_|apply rn_|apply re_));exact HO_101.out) gb189 (Nat.le_of_eq hg.symm)) hb);have n1_:=A_ (Kd.R_below (by (with_reducible repeat (first|apply ra_|apply rn_|apply re_));exact HO_139000.out) hb);have n2_:=A_ (Kd.N_below (Kd.N_elderB (by (with_reducible repeat (first|apply Kd.N_alloc|apply Kd.N_drewN|apply Kd.N_drew));exact HO_139001.out) gb189 (Nat.le_of_eq hg.symm)) hb);have n3_:=A_ (bx_ BK134.out kf_ hb);have n4_:=A_ (bx_ BK138.out kf_ hb);have n5_:=A_ (bp_ (hb2_ HB.out GE134.out GE138.out) hb);have n6_:=A_ (hbox);have n7_:=A_ ((by rw [hg];exact (bz_ (hb2_ HB.out GE134.out GE138.out)) : w.heap.size≤gb189));have n8_:=n7_;have n9_:=A_ ((by rw [hg];exact Nat.ne_of_lt (bl_ BK134.out kf_) : gb134≠gb189));have n10_:=A_ (Ne.symm n9_.out);have n11_:=A_ ((by rw [hg];exact Nat.ne_of_lt (bl_ BK138.out kf_) : gb138≠gb189));have n12_:=A_ (Ne.symm n11_.out);clear HO_101;clear HO_139000;clear HO_139001;clear BK134;clear BK138;clear HB;have HO_101:=n0_;have HO_139000:=n1_;have HO_139001:=n2_;have BK134:=n3_;have BK138:=n4_;have HB:=n5_;have BK189:=n6_;have GW189:=n7_;have GE189:=n8_;have NB134_189:=n9_;have NB189_134:=n10_;have NB138_189:=n11_;have NB189_138:=n12_;clear n0_ n1_ n2_ n3_ n4_ n5_ n6_ n7_ n8_ n9_ n10_ n11_ n12_;clear hb hbox hg;have hnb98:=NB189_134.out;have hnc98:=NB134_189.out;have hnb99:=NB189_138.out;have hnc99:=NB138_189.out;obtain ⟨z100_0,z100_1,z100_2,z100_3⟩:=blkc_4 BK189.out;obtain ⟨y100_0,y100_1,y100_2,y100_3⟩:=blkz_4 BK189.out;have hnb101:=NB138_134.out;have hnc101:=NB134_138.out;have z102_0 : w97.cell? ⟨gb138,0,none⟩=some (.slice Ao21 x59_3.length co21):=(bc_ BK138.out 0).trans rfl;have z102_1 : w97.cell? ⟨gb138,1,none⟩=some (u139001):=(bc_ BK138.out 1).trans rfl;have y102_0:=bf_ BK138.out 0;have y102_1:=bf_ BK138.out 1)|((with_reducible refine gate_dst (N:=111) rfl ?_);refine V_conv _ 5 ?hg (N:=111) ?hd ((rd_T56 t178 x103_5).f3) 9 22 Try.underlying9 Try.underlying22 Try.underlying5 ?hr (Below.refl _ _) (Nat.le_refl _) ?hs ?_;(case hd=>rfl);(case hg=>rfl);(case hr=>first|(go_simp;done)|(go_simp;rfl));(case hs=>exact Nat.le_trans (od_ (by first|(with_reducible assumption)|assumption) : (((rd_T56 t178 x103_5).f3) : ByteArray).size≤1000000) (by decide));intro v191 w103 ho104 hb hg_ hnew_;clear hg_ hnew_;(first|rw [← Ny190.out] at ho104|(simp only [Int.reduceToNat] at ho104;rw [← Ny190.out] at ho104));have n0_:=A_ (Kd.R_below (by (with_reducible repeat (first|apply ra_|apply rn_|apply re_));exact (Kd.R_mono (rf_ (p:=⟨gb189,3,none⟩) (rf_ (p:=⟨gb189,2,none⟩) (rf_ (p:=⟨gb189,1,none⟩) (rf_ (p:=⟨gb189,0,none⟩) (Kd.R_mono HO_101.out (fun k_ hk=>(⟨hk,hk.2⟩ : _∧k_≠gb189))) (fun _ hk=>hk.2) (.int .i64 ((rd_T56 t178 x103_5).f0))) (fun _ hk=>hk.2) (.int .i64 ((rd_T56 t178 x103_5).f1))) (fun _ hk=>hk.2) (.float .f64 ((rd_T56 t178 x103_5).f2))) (fun _ hk=>hk.2) (.string ((rd_T56 t178 x103_5).f3))) (fun _ h_=>h_.1))) hb);have n1_:=A_ (Kd.R_below (by (with_reducible repeat (first|apply ra_|apply rn_|apply re_));exact (Kd.R_mono (rf_ (p:=⟨gb189,3,none⟩) (rf_ (p:=⟨gb189,2,none⟩) (rf_ (p:=⟨gb189,1,none⟩) (rf_ (p:=⟨gb189,0,none⟩) (Kd.R_types HO_139000.out BK189.out (by decide)) (fun _ hk=>hk.2) (.int .i64 ((rd_T56 t178 x103_5).f0))) (fun _ hk=>hk.2) (.int .i64 ((rd_T56 t178 x103_5).f1))) (fun _ hk=>hk.2) (.float .f64 ((rd_T56 t178 x103_5).f2))) (fun _ hk=>hk.2) (.string ((rd_T56 t178 x103_5).f3))) (fun _ h_=>h_.1))) hb);have n2_:=A_ (Kd.N_below (by (with_reducible repeat (first|apply Kd.N_alloc|apply Kd.N_drewN|apply Kd.N_drew));exact (Kd.N_mono (Kd.N_far (p:=⟨gb189,3,none⟩) (Kd.N_far (p:=⟨gb189,2,none⟩) (Kd.N_far (p:=⟨gb189,1,none⟩) (Kd.N_far (p:=⟨gb189,0,none⟩) (Kd.N_mono HO_139001.out (fun k_ hk=>(⟨hk,hk.2⟩ : _∧k_≠gb189))) (fun _ hk=>hk.2) (.int .i64 ((rd_T56 t178 x103_5).f0))) (fun _ hk=>hk.2) (.int .i64 ((rd_T56 t178 x103_5).f1))) (fun _ hk=>hk.2) (.float .f64 ((rd_T56 t178 x103_5).f2))) (fun _ hk=>hk.2) (.string ((rd_T56 t178 x103_5).f3))) (fun _ h_=>h_.1))) hb);have n3_:=A_ (Kd.V_lower (Kd.V_mono (ok':=fun k_=>(w.heap.size≤k_)∧some k_≠(.slice (some ad188) t178.length co90 : Value).ownBlock∧some k_≠(.slice Ao21 x59_3.length co21 : Value).ownBlock∧some k_≠(u139001 : Value).ownBlock∧k_≠gb134∧k_≠gb138∧k_≠gb189) ho104 (fun k_ hk_=>⟨(Nat.le_trans (bz_ (hb3_ HB.out GE134.out GE138.out GE189.out)) hk_),(Kd.fresh' (Kd.R_lt (by (with_reducible repeat (first|apply ra_|apply rn_|apply re_));exact (Kd.R_mono (rf_ (p:=⟨gb189,3,none⟩) (rf_ (p:=⟨gb189,2,none⟩) (rf_ (p:=⟨gb189,1,none⟩) (rf_ (p:=⟨gb189,0,none⟩) (Kd.R_mono HO_101.out (fun k_ hk=>(⟨hk,hk.2⟩ : _∧k_≠gb189))) (fun _ hk=>hk.2) (.int .i64 ((rd_T56 t178 x103_5).f0))) (fun _ hk=>hk.2) (.int .i64 ((rd_T56 t178 x103_5).f1))) (fun _ hk=>hk.2) (.float .f64 ((rd_T56 t178 x103_5).f2))) (fun _ hk=>hk.2) (.string ((rd_T56 t178 x103_5).f3))) (fun _ h_=>h_.1)))) k_ hk_),(Kd.fresh' (Kd.R_lt (by (with_reducible repeat (first|apply ra_|apply rn_|apply re_));exact (Kd.R_mono (rf_ (p:=⟨gb189,3,none⟩) (rf_ (p:=⟨gb189,2,none⟩) (rf_ (p:=⟨gb189,1,none⟩) (rf_ (p:=⟨gb189,0,none⟩) (Kd.R_types HO_139000.out BK189.out (by decide)) (fun _ hk=>hk.2) (.int .i64 ((rd_T56 t178 x103_5).f0))) (fun _ hk=>hk.2) (.int .i64 ((rd_T56 t178 x103_5).f1))) (fun _ hk=>hk.2) (.float .f64 ((rd_T56 t178 x103_5).f2))) (fun _ hk=>hk.2) (.string ((rd_T56 t178 x103_5).f3))) (fun _ h_=>h_.1)))) k_ hk_),(Kd.fresh' (Kd.N_lt (by (with_reducible repeat (first|apply Kd.N_alloc|apply Kd.N_drewN|apply Kd.N_drew));exact (Kd.N_mono (Kd.N_far (p:=⟨gb189,3,none⟩) (Kd.N_far (p:=⟨gb189,2,none⟩) (Kd.N_far (p:=⟨gb189,1,none⟩) (Kd.N_far (p:=⟨gb189,0,none⟩) (Kd.N_mono HO_139001.out (fun k_ hk=>(⟨hk,hk.2⟩ : _∧k_≠gb189))) (fun _ hk=>hk.2) (.int .i64 ((rd_T56 t178 x103_5).f0))) (fun _ hk=>hk.2) (.int .i64 ((rd_T56 t178 x103_5).f1))) (fun _ hk=>hk.2) (.float .f64 ((rd_T56 t178 x103_5).f2))) (fun _ hk=>hk.2) (.string ((rd_T56 t178 x103_5).f3))) (fun _ h_=>h_.1)))) k_ hk_),(Kd.freshB (g:=gb134) (o:=.cells #[.slice none 0 0,.slice none 0 0] 27 (0,0)) (by refine kk_ ?_;refine blk_far ?_ NB134_189.out _;refine kk_ ?_;refine blk_far ?_ NB134_189.out _;refine kk_ ?_;refine blk_far ?_ NB134_189.out _;refine kk_ ?_;refine blk_far ?_ NB134_189.out _;exact kk_ BK134.out) k_ hk_),(Kd.freshB (g:=gb138) (o:=.cells #[.slice Ao21 x59_3.length co21,u139001] 27 (0,0)) (by refine kk_ ?_;refine blk_far ?_ NB138_189.out _;refine kk_ ?_;refine blk_far ?_ NB138_189.out _;refine kk_ ?_;refine blk_far ?_ NB138_189.out _;refine kk_ ?_;refine blk_far ?_ NB138_189.out _;exact kk_ BK138.out) k_ hk_),(Kd.freshB (g:=gb189) (o:=.cells #[.int .i64 ((rd_T56 t178 x103_5).f0),.int .i64 ((rd_T56 t178 x103_5).f1),.float .f64 ((rd_T56 t178 x103_5).f2),.string ((rd_T56 t178 x103_5).f3)] 56 (0,0)) (by refine kk_ ?_;apply blkf_4_0_3;exact kk_ BK189.out) k_ hk_)⟩)) (bz_ (hb3_ HB.out GE134.out GE138.out GE189.out)));have n4_:=A_ (bb_ (g:=gb134) (o:=.cells #[.slice none 0 0,.slice none 0 0] 27 (0,0)) (by refine kk_ ?_;refine blk_far ?_ NB134_189.out _;refine kk_ ?_;refine blk_far ?_ NB134_189.out _;refine kk_ ?_;refine blk_far ?_ NB134_189.out _;refine kk_ ?_;refine blk_far ?_ NB134_189.out _;exact kk_ BK134.out) hb);have n5_:=A_ (bb_ (g:=gb138) (o:=.cells #[.slice Ao21 x59_3.length co21,u139001] 27 (0,0)) (by refine kk_ ?_;refine blk_far ?_ NB138_189.out _;refine kk_ ?_;refine blk_far ?_ NB138_189.out _;refine kk_ ?_;refine blk_far ?_ NB138_189.out _;refine kk_ ?_;refine blk_far ?_ NB138_189.out _;exact kk_ BK138.out) hb);have n6_:=A_ (bb_ (g:=gb189) (o:=.cells #[.int .i64 ((rd_T56 t178 x103_5).f0),.int .i64 ((rd_T56 t178 x103_5).f1),.float .f64 ((rd_T56 t178 x103_5).f2),.string ((rd_T56 t178 x103_5).f3)] 56 (0,0)) (by refine kk_ ?_;apply blkf_4_0_3;exact kk_ BK189.out) hb);have n7_:=A_ (bp_ (hb3_ HB.out GE134.out GE138.out GE189.out) hb);clear HO_101;clear HO_139000;clear HO_139001;clear BK134;clear BK138;clear BK189;clear HB;have HO_101:=n0_;have HO_139000:=n1_;have HO_139001:=n2_;have HO192:=n3_;have BK134:=n4_;have BK138:=n5_;have BK189:=n6_;have HB:=n7_;clear n0_ n1_ n2_ n3_ n4_ n5_ n6_ n7_;clear hb ho104;obtain ⟨Ao106,co106,eo106⟩:=Kd.V_slice HO192.out;subst eo106)|((with_reducible refine gate_builtin (b:=.append) (xs:=#[.tmp 108,.tmp 112]) rfl ?_);at_builtin;refine Kd.N_append (Kd.slice 5 (Kd.int .u8)) (w0:=w) w.heap.size rfl (.tmp 108) (.tmp 112) 25 22 (.slice none 0 0) 24 rfl Try.underlying25 info22 rfl (by decide) (by omega) u139001 x139001_5 y190 [.slice Ao106 y190.length co106] (fun k_=>(w.heap.size≤k_)∧some k_≠(.slice (some ad188) t178.length co90 : Value).ownBlock∧some k_≠(.slice Ao21 x59_3.length co21 : Value).ownBlock∧k_≠gb134∧k_≠gb138∧k_≠gb189) (fun k_=>((fun k_=>(w.heap.size≤k_)∧some k_≠(.slice (some ad188) t178.length co90 : Value).ownBlock∧some k_≠(.slice Ao21 x59_3.length co21 : Value).ownBlock∧k_≠gb134∧k_≠gb138∧k_≠gb189)) k_∧some k_≠(u139001 : Value).ownBlock) rfl rfl ?aP (fun _ hk=>hk) ?aF ?aO ?aB ?aS ?aL ?_;(case aP=>exact (Kd.FK_slice_mk (Kd.V_reads' (Kd.V_mono (ok':=(fun k_=>((fun k_=>(w.heap.size≤k_)∧some k_≠(.slice (some ad188) t178.length co90 : Value).ownBlock∧some k_≠(.slice Ao21 x59_3.length co21 : Value).ownBlock∧k_≠gb134∧k_≠gb138∧k_≠gb189)) k_∧some k_≠(u139001 : Value).ownBlock)) (HO192.out) (fun k_ hk=>⟨⟨hk.1,⟨hk.2.1,⟨hk.2.2.1,⟨hk.2.2.2.2.1,⟨hk.2.2.2.2.2.1,hk.2.2.2.2.2.2⟩⟩⟩⟩⟩,hk.2.2.2.1⟩))).2.1 (Kd.V_F (Kd.V_mono (ok':=(fun k_=>((fun k_=>(w.heap.size≤k_)∧some k_≠(.slice (some ad188) t178.length co90 : Value).ownBlock∧some k_≠(.slice Ao21 x59_3.length co21 : Value).ownBlock∧k_≠gb134∧k_≠gb138∧k_≠gb189)) k_∧some k_≠(u139001 : Value).ownBlock)) (HO192.out) (fun k_ hk=>⟨⟨hk.1,⟨hk.2.1,⟨hk.2.2.1,⟨hk.2.2.2.2.1,⟨hk.2.2.2.2.2.1,hk.2.2.2.2.2.2⟩⟩⟩⟩⟩,hk.2.2.2.1⟩)))));(case aB=>exact (hb3_ HB.out GE134.out GE138.out GE189.out));(case aF=>exact (fun k_ hk=>⟨(Nat.le_trans (bz_ (hb3_ HB.out GE134.out GE138.out GE189.out)) hk),Kd.fresh' (Kd.R_lt (by (with_reducible repeat (first|apply ra_|apply rn_|apply re_));exact HO_101.out)) k_ hk,Kd.fresh' (Kd.R_lt (by (with_reducible repeat (first|apply ra_|apply rn_|apply re_));exact HO_139000.out)) k_ hk,Kd.freshB (g:=gb134) (o:=.cells #[.slice none 0 0,.slice none 0 0] 27 (0,0)) (by exact kk_ BK134.out) k_ hk,Kd.freshB (g:=gb138) (o:=.cells #[.slice Ao21 x59_3.length co21,u139001] 27 (0,0)) (by exact kk_ BK138.out) k_ hk,Kd.freshB (g:=gb189) (o:=.cells #[.int .i64 ((rd_T56 t178 x103_5).f0),.int .i64 ((rd_T56 t178 x103_5).f1),.float .f64 ((rd_T56 t178 x103_5).f2),.string ((rd_T56 t178 x103_5).f3)] 56 (0,0)) (by exact kk_ BK189.out) k_ hk⟩));(case aO=>exact (by (with_reducible repeat (first|apply Kd.N_alloc|apply Kd.N_drewN|apply Kd.N_drew));exact Kd.N_mono HO_139001.out (fun _ hk=>⟨hk.1.1,⟨hk.1.2.1,⟨hk.1.2.2.1,⟨hk.1.2.2.2.1,⟨hk.1.2.2.2.2,hk.2⟩⟩⟩⟩⟩)));(case aS=>exact (bz_ (hb3_ HB.out GE134.out GE138.out GE189.out)));(case aL=>have:=LMc96.out;omega);intro v194 w105 ho hb hg hat;rw [← Ny193.out] at ho;have n0_:=A_ (Kd.R_over' (by (with_reducible repeat (first|apply ra_|apply rn_|apply re_));exact HO_101.out) (Kd.N_typed (by (with_reducible repeat (first|apply Kd.N_alloc|apply Kd.N_drewN|apply Kd.N_drew));exact HO_139001.out)) (by decide) hg);have n1_:=A_ (Kd.R_over' (by (with_reducible repeat (first|apply ra_|apply rn_|apply re_));exact HO_139000.out) (Kd.N_typed (by (with_reducible repeat (first|apply Kd.N_alloc|apply Kd.N_drewN|apply Kd.N_drew));exact HO_139001.out)) (by decide) hg);have n2_:=A_ (blk_grown (g:=gb134) (o:=.cells #[.slice none 0 0,.slice none 0 0] 27 (0,0)) (by exact kk_ BK134.out) hg (Kd.N_ne HO_139001.out BK134.out (by decide)));have n3_:=A_ (blk_grown (g:=gb138) (o:=.cells #[.slice Ao21 x59_3.length co21,u139001] 27 (0,0)) (by exact kk_ BK138.out) hg (Kd.N_ne HO_139001.out BK138.out (by decide)));have n4_:=A_ (blk_grown (g:=gb189) (o:=.cells #[.int .i64 ((rd_T56 t178 x103_5).f0),.int .i64 ((rd_T56 t178 x103_5).f1),.float .f64 ((rd_T56 t178 x103_5).f2),.string ((rd_T56 t178 x103_5).f3)] 56 (0,0)) (by exact kk_ BK189.out) hg (Kd.N_ne HO_139001.out BK189.out (by decide)));have n5_:=A_ (Kd.V_afterv (ok:=(fun k_=>(w.heap.size≤k_)∧some k_≠(.slice (some ad188) t178.length co90 : Value).ownBlock∧some k_≠(.slice Ao21 x59_3.length co21 : Value).ownBlock∧k_≠gb134∧k_≠gb138∧k_≠gb189)) (by (with_reducible repeat (first|apply Kd.V_alloc|apply Kd.V_drewN|apply Kd.V_drew));exact Kd.V_mono HO192.out (fun _ hk=>⟨⟨hk.1,⟨hk.2.1,⟨hk.2.2.1,⟨hk.2.2.2.2.1,⟨hk.2.2.2.2.2.1,hk.2.2.2.2.2.2⟩⟩⟩⟩⟩,hk.2.2.2.1⟩)) hg hat);have n6_:=A_ (hb);have n7_:=A_ (ho);clear HO_101;clear HO_139000;clear BK134;clear BK138;clear BK189;clear HO192;clear HB;clear HO_139001;have HO_101:=n0_;have HO_139000:=n1_;have BK134:=n2_;have BK138:=n3_;have BK189:=n4_;have HO192:=n5_;have HB:=n6_;have HO195:=n7_;clear n0_ n1_ n2_ n3_ n4_ n5_ n6_ n7_;clear ho hb hg hat;obtain ⟨Ao107,co107,eo107⟩:=Kd.N_slice HO195.out;subst eo107;have z108_0 : w105.cell? ⟨gb138,0,none⟩=some (.slice Ao21 x59_3.length co21):=(bc_ BK138.out 0).trans rfl;have z108_1 : w105.cell? ⟨gb138,1,none⟩=some (u139001):=(bc_ BK138.out 1).trans rfl;have y108_0:=bf_ BK138.out 0;have y108_1:=bf_ BK138.out 1))
             go_roundg kj90
             case measure=>have:=HJ16.out;have:=HJ33.out;have:=HK3.out;have:=HJ69.out;have:=HK5.out;have:=HJ90.out;omega
             case rel=>exact ⟨(wrap64 (x103_5 + 1)),(y193),(.slice Ao107 y193.length co107),(by first|rfl|(simp;done)|(simp [*];done)),H',⟨by have:=HJ16.out;have:=HJ33.out;have:=HK3.out;have:=HJ69.out;have:=HK5.out;have:=HJ90.out;omega⟩,⟨by (try simp only [hl59_3]);(with_reducible repeat (first|apply ra_|apply rn_|apply re_));exact Kd.R_mono (rf_ (p:=⟨gb138,1,none⟩) (Kd.R_types HO_101.out BK138.out (by decide)) (fun _ hk=>hk.2) (.slice Ao107 y193.length co107)) (fun _ hk=>hk.1.1)⟩,⟨by (try simp only [hl59_3]);(with_reducible repeat (first|apply ra_|apply rn_|apply re_));exact Kd.R_mono (rf_ (p:=⟨gb138,1,none⟩) (Kd.R_types HO_139000.out BK138.out (by decide)) (fun _ hk=>hk.2) (.slice Ao107 y193.length co107)) (fun _ hk=>hk.1)⟩,⟨by (try simp only [hl59_3]);(with_reducible repeat (first|apply Kd.N_alloc|apply Kd.N_drewN|apply Kd.N_drew));exact Kd.N_mono (Kd.N_far (p:=⟨gb138,1,none⟩) (Kd.N_mono HO195.out (fun k_ hk=>(⟨hk,hk.2.2.2.2.1⟩ : _∧k_≠gb138))) (fun _ hk=>hk.2) (.slice Ao107 y193.length co107)) (fun _ hk=>⟨hk.1.1,⟨hk.1.2.1,⟨hk.1.2.2.1,⟨hk.1.2.2.2.1,hk.1.2.2.2.2.1⟩⟩⟩⟩)⟩,⟨by (try simp only [hl59_3]);refine kk_ ?_;refine blk_far ?_ NB134_138.out _;exact kk_ BK134.out⟩,⟨by (try simp only [hl59_3]);refine kk_ ?_;refine blk_put (cs:=#[.slice Ao21 x59_3.length co21,u139001]) ?_ 1 _ rfl;exact kk_ BK138.out⟩,⟨hb3_ HB.out GE134.out GE138.out GE189.out⟩⟩
end Go.Proofs.Ytjigckhopkclgaa.P
