/- by wip/prune.py -/
import Derived.Test.YtjigckhopkclgaaMLeafDecodes3
import Derived.Laws.Entries
import Derived.RowKit
import Derived.Test.YtjigckhopkclgaaMLeafDecodes5
import Derived.Test.YtjigckhopkclgaaMLeafDecodes7
import Derived.Test.YtjigckhopkclgaaMLeafDecodes13
import Derived.Test.YtjigckhopkclgaaMLeafDecodes14
import Derived.Test.YtjigckhopkclgaaMLeafDecodes17
import Derived.Test.YtjigckhopkclgaaMLeafDecodes18
set_option linter.unusedSimpArgs false
set_option linter.unusedVariables false
namespace Go.Proofs.Ytjigckhopkclgaa.Crc
def poly : BitVec 32:=0x814141AB#32
def s (r : BitVec 32) : BitVec 32:=(r <<< 1) ^^^ (if r.msb then poly else 0#32)
def bitw (b : Bool) : BitVec 32:=if b then 0x80000000#32 else 0#32
def st (r : BitVec 32) (b : Bool) : BitVec 32:=s (r ^^^ bitw b)
def run (r : BitVec 32) (l : List Bool) : BitVec 32:=l.foldl st r
theorem s_xor (a b : BitVec 32) : s (a ^^^ b)=s a ^^^ s b:=by
  unfold s
  rw [BitVec.msb_xor,BitVec.shiftLeft_xor_distrib]
  cases a.msb <;> cases b.msb <;> simp
  · rw [BitVec.xor_assoc]
  · rw [BitVec.xor_assoc,BitVec.xor_assoc]; congr 1; exact BitVec.xor_comm _ _
  · rw [BitVec.xor_assoc,← BitVec.xor_assoc poly,BitVec.xor_comm poly,BitVec.xor_assoc,BitVec.xor_self]; simp
theorem run_append (r : BitVec 32) (l m : List Bool) : run r (l++m)=run (run r l) m:=by simp [run]
theorem run_cons (r : BitVec 32) (a : Bool) (l : List Bool) : run r (a :: l)=run (st r a) l:=rfl
theorem run_nil (r : BitVec 32) : run r []=r:=rfl
def sn : Nat→BitVec 32→BitVec 32
  | 0,r=>r
  | n+1,r=>sn n (s r)
def pack : List Bool→BitVec 32
  | []=>0#32
  | b :: l=>bitw b ^^^ (pack l >>> 1)
theorem pack_low (l : List Bool) (k : Nat) (h : l.length + k≤31) : (pack l).getLsbD k=false:=by
  induction l generalizing k with
  | nil=>simp [pack]
  | cons b l ih =>
    simp only [List.length_cons] at h
    rw [pack,BitVec.getLsbD_xor,BitVec.getLsbD_ushiftRight,show 1 + k=k + 1 by omega,ih (k + 1) (by omega)]
    cases b with
    | false=>simp [bitw]
    | true =>
      simp only [bitw,if_true,Bool.bne_false]
      have : ∀ k : Nat,k<31→(0x80000000#32).getLsbD k=false:=by decide
      exact this k (by omega)
theorem s_shift (x : BitVec 32) (h : x.getLsbD 0=false) : s (x >>> 1)=x:=by
  unfold s
  have hm : (x >>> 1).msb=false:=by simp [BitVec.msb_ushiftRight]
  rw [hm]
  simp only [Bool.false_eq_true,if_false,BitVec.xor_zero]
  apply BitVec.eq_of_getLsbD_eq;intro i hi;rw [BitVec.getLsbD_shiftLeft,BitVec.getLsbD_ushiftRight]
  cases i with
  | zero=>simp; exact h
  | succ i=>simp [hi,show 1 + i=i + 1 by omega]
theorem run_pack (l : List Bool) (h : l.length≤32) (r : BitVec 32) : run r l=sn l.length (r ^^^ pack l):=by
  induction l generalizing r with
  | nil=>simp [run_nil,sn,pack]
  | cons b l ih =>
    simp only [List.length_cons] at h
    rw [run_cons,ih (by omega),List.length_cons,sn,pack,← BitVec.xor_assoc,s_xor,s_shift _ (pack_low l 0 (by omega))]
    rfl
def b8 (x : Int) : List Bool:=[x.toNat.testBit 7,x.toNat.testBit 6,x.toNat.testBit 5,x.toNat.testBit 4,x.toNat.testBit 3,x.toNat.testBit 2,x.toNat.testBit 1,x.toNat.testBit 0]
def tb (l : List Int) : List Bool:=l.flatMap b8
def crc (r : BitVec 32) (l : List Int) : BitVec 32:=run r (tb l)
theorem tb_cons (x : Int) (l : List Int) : tb (x :: l)=b8 x++tb l:=rfl
theorem crc_cons (r : BitVec 32) (x : Int) (l : List Int) : crc r (x :: l)=crc (run r (b8 x)) l:=by
  unfold crc; rw [tb_cons,run_append]
theorem pack_b8 : ∀ n,n<256→pack (b8 (n : Nat))=BitVec.ofNat 32 (n * 16777216):=by decide +kernel
theorem run_b8 (r : BitVec 32) (x : Int) (h0 : 0≤x) (h1 : x≤255) : run r (b8 x)=sn 8 (r ^^^ BitVec.ofNat 32 (x.toNat * 16777216)):=by
  rw [run_pack _ (by simp [b8])]
  obtain ⟨n,rfl⟩:=Int.eq_ofNat_of_zero_le h0
  rw [pack_b8 n (by omega)]
  rfl
theorem xor32 (a b : BitVec 32) : Go.bits .xor .u32 (a.toNat : Int) (b.toNat : Int)=((a ^^^ b).toNat : Int):=by
  have h:=(a ^^^ b).isLt
  have e : ∀ n : Nat,n<4294967296→IntKind.u32.wrap (n : Int)=n:=fun n hn=>by
    simp only [IntKind.wrap,IntKind.bits,IntKind.signed]; simp; omega
  have e1 : BitVec.ofInt IntKind.u32.bits (a.toNat : Int)=a:=by rw [BitVec.ofInt_natCast]; exact BitVec.ofNat_toNat 32 a
  have e2 : BitVec.ofInt IntKind.u32.bits (b.toNat : Int)=b:=by rw [BitVec.ofInt_natCast]; exact BitVec.ofNat_toNat 32 b
  unfold Go.bits
  rw [e1,e2];exact e _ h
theorem dbl (r : BitVec 32) : (r.toNat : Int) * (2 : Int) % (4294967296 : Int)=((r <<< 1).toNat : Int):=by
  rw [BitVec.toNat_shiftLeft,Nat.shiftLeft_eq]; omega
theorem step_hi (r : BitVec 32) (h : (r.toNat : Int) / (2147483648 : Int)=1) : Go.bits .xor .u32 ((r.toNat : Int) * (2 : Int) % (4294967296 : Int)) 2168537515=((s r).toNat : Int):=by
  have hm : r.msb=true:=by rw [BitVec.msb_eq_decide]; simp; omega
  have e2 : (2168537515 : Int)=(poly.toNat : Int):=rfl;rw [dbl,e2,xor32]
  unfold s
  rw [hm]
  simp
theorem step_lo (r : BitVec 32) (h : ¬ (r.toNat : Int) / (2147483648 : Int)=1) : (r.toNat : Int) * (2 : Int) % (4294967296 : Int)=((s r).toNat : Int):=by
  have hr:=r.isLt
  have hm : r.msb=false:=by rw [BitVec.msb_eq_decide]; simp; omega
  rw [dbl]
  unfold s
  rw [hm]
  simp
theorem b8_length (x : Int) : (b8 x).length=8:=rfl
theorem tb_length (l : List Int) : (tb l).length=8 * l.length:=by
  induction l with
  | nil=>rfl
  | cons x l ih=>rw [tb_cons,List.length_append,ih,b8_length,List.length_cons]; omega
theorem b8_get (x : Int) (i : Nat) (h : i<8) : (b8 x)[i]?=some (x.toNat.testBit (7 - i)):=by
  rcases (by omega : i=0∨i=1∨i=2∨i=3∨i=4∨i=5∨i=6∨i=7) with rfl|rfl|rfl|rfl|rfl|rfl|rfl|rfl <;> rfl
theorem tb_get (l : List Int) : ∀ i,i<8 * l.length→(tb l)[i]?=some ((l.getD (i / 8) 0).toNat.testBit (7 - i % 8)):=by
  induction l with
  | nil=>intro i h; simp at h
  | cons x l ih =>
    intro i h;rw [tb_cons]
    by_cases c : i<8
    · rw [List.getElem?_append_left (by rw [b8_length]; exact c),b8_get x i c,Nat.div_eq_of_lt c,Nat.mod_eq_of_lt c]
      rfl
    · rw [List.getElem?_append_right (by rw [b8_length]; omega),b8_length,ih (i - 8) (by simp only [List.length_cons] at h; omega)]
      obtain ⟨k,hk⟩ : ∃ k,i / 8=k + 1:=⟨i / 8 - 1,by omega⟩
      rw [hk,show (i - 8) / 8=k by omega,show (i - 8) % 8=i % 8 by omega]
      rfl
theorem tb_take (l : List Int) (i : Nat) (h : i<8 * l.length) : (tb l).take (i + 1)=(tb l).take i++[(l.getD (i / 8) 0).toNat.testBit (7 - i % 8)]:=by
  have hg:=tb_get l i h;obtain ⟨hl,he⟩:=List.getElem?_eq_some_iff.1 hg;rw [List.take_succ_eq_append_getElem hl,he]
theorem run_snoc (r : BitVec 32) (l : List Bool) (b : Bool) : run r (l++[b])=st (run r l) b:=by rw [run_append]; rfl
theorem xor_u64 (a b : Nat) (ha : a<18446744073709551616) (hb : b<18446744073709551616) : Go.bits .xor .u64 (a : Int) (b : Int)=((a ^^^ b : Nat) : Int):=by
  have w64 : ∀ n : Nat,n<18446744073709551616→IntKind.u64.wrap (n : Int)=n:=fun n hn=>by
    simp only [IntKind.wrap,IntKind.bits,IntKind.signed]; simp; omega
  have e1 : ∀ n : Nat,BitVec.ofInt IntKind.u64.bits (n : Int)=BitVec.ofNat 64 n:=fun n=>by rw [BitVec.ofInt_natCast]; rfl
  have ex : (BitVec.ofNat 64 a ^^^ BitVec.ofNat 64 b).toNat=a ^^^ b:=by
    rw [BitVec.toNat_xor,BitVec.toNat_ofNat,BitVec.toNat_ofNat,Nat.mod_eq_of_lt (by omega),Nat.mod_eq_of_lt (by omega)]
  have hx : a ^^^ b<2 ^ 64:=Nat.xor_lt_two_pow (by omega) (by omega)
  unfold Go.bits
  rw [e1,e1]
  refine Eq.trans (congrArg (fun z : Nat=>IntKind.u64.wrap (z : Int)) ex) ?_
  exact w64 _ (by omega)
theorem st_eq (q : BitVec 32) (b : Bool) : st q b=(q <<< 1) ^^^ (if (q.msb ^^ b) then poly else 0#32):=by
  unfold st s
  rw [BitVec.msb_xor,BitVec.shiftLeft_xor_distrib]
  have h0 : (bitw b <<< 1)=0#32:=by cases b <;> decide
  have h1 : (bitw b).msb=b:=by cases b <;> decide
  rw [h0,h1,BitVec.xor_zero]
theorem msb_div (q : BitVec 32) : (q.toNat : Int) / 2147483648=if q.msb then 1 else 0:=by
  have h:=q.isLt;have hm : q.msb=decide (2 ^ 31≤q.toNat):=BitVec.msb_eq_decide q;rw [hm]
  by_cases c : 2 ^ 31≤q.toNat
  · rw [dt_ c]; simp only [if_true]; omega
  · rw [df_ c]; simp only [Bool.false_eq_true,if_false]; omega
theorem ref_same (q : BitVec 32) (b : Bool) (h : ((q.toNat : Int) / 2147483648 != (if b then 1 else 0))=false) : (q.toNat : Int) * 2 % 4294967296=((st q b).toNat : Int):=by
  rw [msb_div] at h
  have e : q.msb=b:=by revert h; cases q.msb <;> cases b <;> decide
  rw [st_eq,e,Bool.xor_self]
  simp only [Bool.false_eq_true,if_false,BitVec.xor_zero]
  exact dbl q
theorem ref_other (q : BitVec 32) (b : Bool) (h : ((q.toNat : Int) / 2147483648 != (if b then 1 else 0))=true) : Go.bits .xor .u64 ((q.toNat : Int) * 2 % 4294967296) 2168537515=((st q b).toNat : Int):=by
  rw [msb_div] at h
  have e : (q.msb ^^ b)=true:=by revert h; cases q.msb <;> cases b <;> decide
  rw [st_eq,e]
  simp only [if_true]
  have d:=dbl q;have e3 : (2168537515 : Int)=((2168537515 : Nat) : Int):=rfl
  rw [d,e3,xor_u64 _ _ (by have:=(q <<< 1).isLt; omega) (by omega),BitVec.toNat_xor]
  rfl
theorem bit_of (x : Int) (k : Nat) (h0 : 0≤x) : (x / 2 ^ k).tmod 2=if x.toNat.testBit k then 1 else 0:=by
  obtain ⟨n,rfl⟩:=Int.eq_ofNat_of_zero_le h0;rw [Int.toNat_natCast,Nat.testBit_eq_decide_div_mod_eq]
  have e : (n : Int) / 2 ^ k=((n / 2 ^ k : Nat) : Int):=by
    rw [Int.natCast_ediv]; simp
  rw [e]
  generalize n / 2 ^ k=m
  have e2 : ((m : Int)).tmod 2=((m % 2 : Nat) : Int):=by rw [Int.tmod_eq_emod_of_nonneg (by omega)]; omega
  rw [e2]
  rcases Nat.mod_two_eq_zero_or_one m with h|h <;> rw [h] <;> rfl
end Go.Proofs.Ytjigckhopkclgaa.Crc
namespace Go.Proofs.Ytjigckhopkclgaa.P
open Go.RowKit Ytjigckhopkclgaa Ytjigckhopkclgaa.Mem YtjigckhopkclgaaW.PrintWords YtjigckhopkclgaaW.PrintLast YtjigckhopkclgaaW.PrintMore
def reg0 : BitVec 32:=BitVec.allOnes 32
def sumL (l : List Int) : BitVec 32:=Crc.crc reg0 l
def fourL (v : BitVec 32) : List Int:=[(v.toNat : Int) / 16777216 % 256,(v.toNat : Int) / 65536 % 256,(v.toNat : Int) / 256 % 256,(v.toNat : Int) % 256]
def sealL (l : List Int) : List Int:=fourL (sumL l)++l
theorem sealL_length (l : List Int) : (sealL l).length=l.length + 4:=by unfold sealL fourL; simp
theorem sealL_take (l : List Int) : (sealL l).take 4=fourL (sumL l):=rfl
theorem sealL_drop (l : List Int) : (sealL l).drop 4=l:=rfl
theorem fourL_bytes (v : BitVec 32) : Bytes (fourL v):=by
  intro x hx
  unfold fourL at hx
  simp only [List.mem_cons,List.not_mem_nil,or_false] at hx
  rcases hx with rfl|rfl|rfl|rfl <;> omega
theorem sealL_bytes {l : List Int} (h : Bytes l) : Bytes (sealL l):=(fourL_bytes _).append h
theorem wsucc {i : Nat} (h : i≤4611686018427387904) : wrap64 ((i : Int) + 1)=((i + 1 : Nat) : Int):=by unfold wrap64; omega
theorem More_l1 (l : List Int) (n i : Int) (k : Nat) : ∀ (d j : Nat) (r : BitVec 32),j + d=8→tally_More.l1 (k + d + 1) (r.toNat : Int) l n i (j : Int)=tally_More.l0 k ((Crc.sn d r).toNat : Int) l n (wrap64 (i + 1)):=by
  intro d
  induction d with
  | zero =>
    intro j r hj
    rw [tally_More.l1,if_neg (by omega)]; rfl
  | succ d ih =>
    intro j r hj
    rw [show k + (d + 1) + 1=(k + d + 1) + 1 by omega,tally_More.l1,if_pos (by omega),wsucc (by omega)]
    by_cases ht : (r.toNat : Int) / 2147483648=1
    · rw [if_pos ht,Crc.step_hi r ht]; exact ih (j + 1) (Crc.s r) (by omega)
    · rw [if_neg ht,Crc.step_lo r ht]; exact ih (j + 1) (Crc.s r) (by omega)
theorem top8L (r : BitVec 32) (x : Int) (h0 : 0≤x) (h1 : x≤255) : Go.bits .xor .u32 (r.toNat : Int) (((x % 4294967296) * 16777216) % 4294967296)=((r ^^^ BitVec.ofNat 32 (x.toNat * 16777216)).toNat : Int):=by
  have e : ((x % 4294967296) * 16777216) % 4294967296=((BitVec.ofNat 32 (x.toNat * 16777216)).toNat : Int):=by
    rw [BitVec.toNat_ofNat]; omega
  rw [e,Crc.xor32]
theorem More_l0 {l : List Int} (hb : Bytes l) (hl : l.length≤1000000) (k : Nat) : ∀ (d i : Nat) (r : BitVec 32),i + d=l.length→tally_More.l0 (k + 10 * d + 1) (r.toNat : Int) l (l.length : Int) (i : Int)=some ((Crc.crc r (l.drop i)).toNat : Int):=by
  intro d
  induction d with
  | zero =>
    intro i r hi
    rw [tally_More.l0,if_neg (by omega),List.drop_eq_nil_of_le (by omega)]; rfl
  | succ d ih =>
    intro i r hi
    have hlt : i<l.length:=by omega
    have hbb:=hb.at_ i hlt
    rw [show k + 10 * (d + 1) + 1=(k + 10 * d + 1) + 8 + 1 + 1 by omega,tally_More.l0,if_pos (by omega),if_pos (by omega),if_pos (by omega),top8L r _ hbb.1 hbb.2]
    refine (More_l1 l (l.length : Int) (i : Int) (k + 10 * d + 1) 8 0 _ rfl).trans ?_
    rw [wsucc (by omega),ih (i + 1) _ (by omega)]
    congr 2
    have he : rd l (i : Int)=l[i]:=by unfold rd; rw [Int.toNat_natCast,List.getD_eq_getElem?_getD,List.getElem?_eq_getElem hlt]; rfl
    rw [List.drop_eq_getElem_cons hlt,Crc.crc_cons,Crc.run_b8 _ _ (by rw [← he]; exact hbb.1) (by rw [← he]; exact hbb.2),he]
theorem tSum_ev {k : Nat} {l : List Int} (hb : Bytes l) (hl : l.length≤1000000) (hk : 10 * l.length + 1≤k) : tally_Sum.f k l=some ((sumL l).toNat : Int):=by
  obtain ⟨m,rfl⟩ : ∃ m,k=m + 10 * l.length + 1:=⟨k - (10 * l.length + 1),by omega⟩
  unfold tally_Sum.f tally_More.f
  have h:=More_l0 hb hl m l.length 0 reg0 (by omega)
  rw [List.drop_zero] at h
  rw [show (4294967295 : Int)=(reg0.toNat : Int) from rfl,show (0 : Int)=((0 : Nat) : Int) from rfl,h]
  rfl
theorem tSeal_ev {k : Nat} {l : List Int} (hb : Bytes l) (hl : l.length≤1000000) (hk : 10 * l.length + 1≤k) : tally_Seal.f k l=some (sealL l):=by
  unfold tally_Seal.f
  rw [tSum_ev hb hl hk]
  simp only [Option.bind_some]
  rw [if_pos (by simp; omega)]
  rfl
theorem tOpen_ev {k : Nat} {l : List Int} (hb : Bytes l) (h4 : 4≤l.length) (hl : l.length≤1000000) (hk : 10 * l.length + 1≤k) : tally_Open.f k l=some (if fourL (sumL (l.drop 4))=l.take 4 then (l.drop 4,0) else ([],5)):=by
  unfold tally_Open.f
  rw [if_neg (by omega),if_pos (by omega),tSeal_ev (hb.drop 4) (by rw [List.length_drop]; omega) (by rw [List.length_drop]; omega),Option.bind_some,if_pos (by rw [sealL_length]; omega),sealL_take]
  have hq:=str_eq (fourL_bytes (sumL (l.drop 4))) (hb.take 4)
  by_cases he : fourL (sumL (l.drop 4))=l.take 4
  · rw [if_pos he,he,if_pos rfl]; rfl
  · rw [if_neg he,if_neg (by intro h; rw [h,beq_self_eq_true] at hq; exact he (od_ hq.symm))]
theorem ref_step (q : BitVec 32) (b : Bool) : (((q.toNat : Int) / 2147483648)=(if b then 1 else 0)→(q.toNat : Int) * 2 % 4294967296=((Crc.st q b).toNat : Int))∧(¬ ((q.toNat : Int) / 2147483648)=(if b then 1 else 0)→Go.bits .xor .u64 ((q.toNat : Int) * 2 % 4294967296) 2168537515=((Crc.st q b).toNat : Int)) :=
  ⟨fun h=>Crc.ref_same q b (by rw [bne_eq_false_iff_eq]; exact h),fun h=>Crc.ref_other q b (by rw [bne_iff_ne]; exact h)⟩
theorem w64u {n : Int} (h0 : 0≤n) (h : n<18446744073709551616) : IntKind.u64.wrap n=n:=by
  simp only [IntKind.wrap,IntKind.bits,IntKind.signed]; simp; omega
theorem rSum_l0 {l : List Int} (hb : Bytes l) (hl : l.length≤1000000) (k : Nat) : ∀ (d i : Nat),i + d=8 * l.length→humusref02_Sum.l0 (k + d + 1) l ((Crc.run reg0 ((Crc.tb l).take i)).toNat : Int) (i : Int)=some ((sumL l).toNat : Int):=by
  intro d
  induction d with
  | zero =>
    intro i hi
    have hw : wrap64 (8 * (l.length : Int))=((8 * l.length : Nat) : Int):=by unfold wrap64; omega
    rw [humusref02_Sum.l0,hw,if_neg (by omega),List.take_of_length_le (by rw [Crc.tb_length]; omega)]
    have h:=(Crc.run reg0 (Crc.tb l)).isLt
    congr 1
    unfold sumL Crc.crc
    omega
  | succ d ih =>
    intro i hi
    have hlt : i<8 * l.length:=by omega
    have hw : wrap64 (8 * (l.length : Int))=((8 * l.length : Nat) : Int):=by unfold wrap64; omega
    have ht1 : Int.tdiv (i : Int) 8=((i / 8 : Nat) : Int):=by rw [Int.tdiv_eq_ediv_of_nonneg (by omega)]; omega
    have ht2 : Int.tmod (i : Int) 8=((i % 8 : Nat) : Int):=by rw [Int.tmod_eq_emod_of_nonneg (by omega)]; omega
    have hw1 : wrap64 ((i / 8 : Nat) : Int)=((i / 8 : Nat) : Int):=by unfold wrap64; omega
    have hw2 : wrap64 (7 - ((i % 8 : Nat) : Int))=((7 - i % 8 : Nat) : Int):=by unfold wrap64; omega
    have hw3 : IntKind.u64.wrap ((7 - i % 8 : Nat) : Int)=((7 - i % 8 : Nat) : Int):=w64u (by omega) (by omega)
    have hbb:=hb.at_ (i / 8) (by omega)
    have hx : IntKind.u64.wrap (rd l ((i / 8 : Nat) : Int))=rd l ((i / 8 : Nat) : Int):=w64u hbb.1 (by omega)
    have hsh : shr .u64 (rd l ((i / 8 : Nat) : Int)) ((7 - i % 8 : Nat) : Int)=rd l ((i / 8 : Nat) : Int) / 2 ^ (7 - i % 8):=by
      unfold shr
      rw [Int.toNat_natCast,Nat.min_eq_left (by simp only [IntKind.bits]; omega)]
    have hbt:=Crc.bit_of (rd l ((i / 8 : Nat) : Int)) (7 - i % 8) hbb.1
    have hsn : Crc.run reg0 ((Crc.tb l).take (i + 1))=Crc.st (Crc.run reg0 ((Crc.tb l).take i)) ((rd l ((i / 8 : Nat) : Int)).toNat.testBit (7 - i % 8)):=by rw [Crc.tb_take l i hlt,Crc.run_snoc]; rfl
    have ih':=ih (i + 1) (by omega)
    rw [hsn] at ih';have hq:=(Crc.run reg0 ((Crc.tb l).take i)).isLt
    generalize Crc.run reg0 ((Crc.tb l).take i)=q at *
    have hd : Int.tdiv (q.toNat : Int) 2147483648=(q.toNat : Int) / 2147483648:=Int.tdiv_eq_ediv_of_nonneg (by omega)
    have hd1 : IntKind.u64.wrap ((q.toNat : Int) / 2147483648)=(q.toNat : Int) / 2147483648:=w64u (by omega) (by omega)
    have hm1 : IntKind.u64.wrap ((q.toNat : Int) * 2)=(q.toNat : Int) * 2:=w64u (by omega) (by omega)
    have hm2 : Int.tmod ((q.toNat : Int) * 2) 4294967296=(q.toNat : Int) * 2 % 4294967296:=Int.tmod_eq_emod_of_nonneg (by omega)
    have hst:=ref_step q ((rd l ((i / 8 : Nat) : Int)).toNat.testBit (7 - i % 8))
    rw [show k + (d + 1) + 1=(k + d + 1) + 1 by omega,humusref02_Sum.l0,hw,if_pos (by omega),ht1,ht2,hw1,if_pos (by omega),if_pos (by omega),hw2,hw3,if_pos (by omega),hx,hsh,hbt,hd,hd1,hm1,hm2,wsucc (by omega)]
    by_cases hc : (q.toNat : Int) / 2147483648=(if (rd l ((i / 8 : Nat) : Int)).toNat.testBit (7 - i % 8)=true then 1 else 0)
    · rw [if_pos hc,hst.1 hc]; exact ih'
    · rw [if_neg hc,hst.2 hc]; exact ih'
theorem rSum_ev {k : Nat} {l : List Int} (hb : Bytes l) (hl : l.length≤1000000) (hk : 8 * l.length + 1≤k) : humusref02_Sum.f k l=some ((sumL l).toNat : Int):=by
  obtain ⟨m,rfl⟩ : ∃ m,k=m + 8 * l.length + 1:=⟨k - (8 * l.length + 1),by omega⟩
  unfold humusref02_Sum.f
  exact rSum_l0 hb hl m (8 * l.length) 0 (by omega)
theorem rFour_ev (v : BitVec 32) : humusref02_Four.f (v.toNat : Int)=some (fourL v):=by
  have h:=v.isLt
  unfold humusref02_Four.f fourL
  have e : ∀ m : Int,0<m→m<4294967296→Int.tdiv (v.toNat : Int) m % 4294967296=(v.toNat : Int) / m:=by
    intro m h0 h1
    rw [Int.tdiv_eq_ediv_of_nonneg (by omega)]
    refine Int.emod_eq_of_lt (Int.ediv_nonneg (by omega) (by omega)) ?_
    have:=Int.ediv_le_self (a:=(v.toNat : Int)) m (by omega)
    omega
  rw [e _ (by decide) (by decide),e _ (by decide) (by decide),e _ (by decide) (by decide)]
theorem rSeal_ev {k : Nat} {l : List Int} (hb : Bytes l) (hl : l.length≤1000000) (hk : 8 * l.length + 1≤k) : humusref02_Seal.f k l=some (sealL l):=by
  unfold humusref02_Seal.f
  rw [rSum_ev hb hl hk,Option.bind_some,rFour_ev,Option.bind_some,if_pos (by unfold fourL; simp; omega)]
  rfl
end Go.Proofs.Ytjigckhopkclgaa.P
namespace Go.Proofs.Ytjigckhopkclgaa.Pac
open Go.RowKit Ytjigckhopkclgaa Ytjigckhopkclgaa.Mem YtjigckhopkclgaaW.PrintWords YtjigckhopkclgaaW.PrintLast YtjigckhopkclgaaW.PrintMore
theorem nil_str : (⟨#[]⟩ : ByteArray).toList=[]:=by kernel_rfl
theorem item1_spec {b : List Int} {p q : Nat} {k : Int} {a : It} (hb : Bytes b) (h : item1 b p k=some (a,q)) (hk : 1≤k∧k≤5) :
    p≤q∧q≤b.length∧a.k=k∧may a=true∧norm a=a∧a.x<18446744073709551616∧one a=(b.drop p).take (q - p):=by
  have hx:=item1_x hb h;have hq:=item1_le h;have hv0:=val0
  unfold item1 at h
  split at h
  · rename_i hk4
    split at h
    · rename_i h1
      injection h with h; injection h with h2 h3
      subst h2 h3
      refine ⟨by omega,hq,hk4.symm,?_,?_,hx,?_⟩
      · rw [may_4,nil_str]; rfl
      · unfold norm; simp only [h1.2]
      · have:=rt4 hb h1.1
        rw [dt_ h1.2] at this
        rw [od_ this,show p + 8 - p=8 by omega]
    · cases h
  · split at h
    · rename_i hk4 hk5
      split at h
      · rename_i h1
        injection h with h; injection h with h2 h3
        subst h2 h3;have hn:=num_bd ((hb.drop p).take 1)
        have hl1 : ((b.drop p).take 1).length=1:=by rw [List.length_take,List.length_drop]; omega
        rw [hl1] at hn
        have hm : num ((b.drop p).take 1)=(((num ((b.drop p).take 1)).toNat : Nat) : Int):=by omega
        generalize (num ((b.drop p).take 1)).toNat=m at *
        have hsz : (strOfNums ((b.drop (p + 1)).take m)).size=m:=by rw [size_strOf,List.length_take,List.length_drop]; omega
        refine ⟨by omega,hq,hk5.symm,?_,?_,hx,?_⟩
        · rw [may_5,hsz]; simp; omega
        · unfold norm; simp only [hv0]
        · rw [rt5 hb h1.2 hm,show p + 1 + m - p=1 + m by omega]
      · cases h
    · rename_i hk4 hk5
      split at h
      · rename_i h1
        injection h with h; injection h with h2 h3
        subst h2 h3
        have hk3 : k=1∨k=2∨k=3:=by omega
        refine ⟨by omega,hq,rfl,h1.2,?_,hx,?_⟩
        · unfold norm; simp only [hv0]
        · have hw : wid k=(((wid k).toNat : Nat) : Int):=by unfold wid; rcases hk3 with rfl|rfl|rfl <;> rfl
          rw [rt3 hb h1.1 hk3 hw,show p + (wid k).toNat - p=(wid k).toNat by omega]
      · cases h
theorem takes_spec {b : List Int} (hb : Bytes b) : ∀ (ks : List Int) (p r : Nat) (l : List It),p≤b.length→kindsOk ks=true→takes b p ks=some (l,r) →
    p≤r∧r≤b.length∧l.map (·.k)=ks∧(∀ a ∈ l,may a=true)∧l.map norm=l∧(∀ a ∈ l,a.x<18446744073709551616)∧ones l=(b.drop p).take (r - p):=by
  intro ks
  induction ks with
  | nil =>
    intro p r l hp _ h
    simp only [takes] at h
    injection h with h; injection h with h1 h2
    subst h1 h2
    exact ⟨Nat.le_refl _,hp,rfl,(fun a h=>by cases h),rfl,(fun a h=>by cases h),by simp [ones]⟩
  | cons k ks ih =>
    intro p r l hp hks h
    simp only [takes] at h
    split at h
    · cases h
    rename_i a q hi
    split at h
    · cases h
    rename_i m r' ht
    injection h with h; injection h with h1 h2
    subst h1 h2
    unfold kindsOk at hks
    rw [List.all_cons,Bool.and_eq_true] at hks
    have hk1 : 1≤k∧k≤5:=by simpa using hks.1
    obtain ⟨a1,a2,a3,a4,a5,a6,a7⟩:=item1_spec hb hi hk1;obtain ⟨b1,b2,b3,b4,b5,b6,b7⟩:=ih q r' m a2 hks.2 ht
    refine ⟨by omega,b2,by rw [List.map_cons,a3,b3],?_,by rw [List.map_cons,a5,b5],?_,?_⟩
    · intro x hx; rcases List.mem_cons.1 hx with rfl|hx
      · exact a4
      · exact b4 x hx
    · intro x hx; rcases List.mem_cons.1 hx with rfl|hx
      · exact a6
      · exact b6 x hx
    · unfold ones at b7 ⊢
      rw [List.flatMap_cons,a7,b7]
      rw [show r' - p=(q - p) + (r' - q) by omega,← List.take_append_drop (q - p) ((b.drop p).take ((q - p) + (r' - q)))]
      rw [List.take_take,Nat.min_eq_left (by omega),List.drop_take,List.drop_drop,show p + (q - p)=q by omega,show (q - p) + (r' - q) - (q - p)=r' - q by omega]
theorem takes_len {ks : List Int} {b : List Int} {p r : Nat} {l : List It} (hb : Bytes b) (hp : p≤b.length) (hks : kindsOk ks=true) (h : takes b p ks=some (l,r)) : l.length=ks.length:=by
  have:=(takes_spec hb ks p r l hp hks h).2.2.1;rw [← this,List.length_map]
theorem form123 {a : It} (h : may a=true) (hk : a.k=1∨a.k=2∨a.k=3) : a=⟨a.k,a.n,0,⟨#[]⟩⟩∧0≤a.n∧a.n≤lim a.k:=by
  obtain ⟨k,n,x,s⟩:=a
  rcases hk with rfl|rfl|rfl
  · rw [may_1] at h
    simp only [Bool.and_eq_true,decide_eq_true_eq,beq_iff_eq] at h
    obtain ⟨⟨⟨h1,h2⟩,h3⟩,h4⟩:=h
    rw [sz0 h4,show x=0 by omega]
    exact ⟨rfl,h1,by show n≤255; omega⟩
  · rw [may_2] at h
    simp only [Bool.and_eq_true,decide_eq_true_eq,beq_iff_eq] at h
    obtain ⟨⟨⟨h1,h2⟩,h3⟩,h4⟩:=h
    rw [sz0 h4,show x=0 by omega]
    exact ⟨rfl,h1,by show n≤65535; omega⟩
  · rw [may_3] at h
    simp only [Bool.and_eq_true,decide_eq_true_eq,beq_iff_eq] at h
    obtain ⟨⟨⟨h1,h2⟩,h3⟩,h4⟩:=h
    rw [sz0 h4,show x=0 by omega]
    exact ⟨rfl,h1,by show n≤2147483647; omega⟩
theorem form5 {a : It} (h : may a=true) (hk : a.k=5) : a=⟨5,0,0,a.s⟩∧a.s.size<256:=by
  obtain ⟨k,n,x,s⟩:=a
  simp only at hk
  subst hk;rw [may_5] at h
  simp only [Bool.and_eq_true,decide_eq_true_eq,beq_iff_eq] at h
  obtain ⟨⟨h1,h2⟩,h3⟩:=h
  rw [h1,show x=0 by omega]
  exact ⟨rfl,by show s.size<256; omega⟩
theorem ones_append (l m : List It) : ones (l++m)=ones l++ones m:=by unfold ones; rw [List.flatMap_append]
end Go.Proofs.Ytjigckhopkclgaa.Pac
namespace Go.Proofs.Ytjigckhopkclgaa.P
open Go.RowKit Ytjigckhopkclgaa Ytjigckhopkclgaa.Mem Ytjigckhopkclgaa.Pac YtjigckhopkclgaaW.PrintWords YtjigckhopkclgaaW.PrintLast YtjigckhopkclgaaW.PrintMore
def foursS (I : List Int) : List SIt:=I.map (fun w=>⟨3,w,0,⟨#[]⟩⟩)
def slotS (S : List (List Int)) : List SIt:=S.map (fun s=>⟨5,0,0,strOfNums s⟩)
def headS (I : List Int) (n : Nat) : List SIt:=[(⟨1,76,0,⟨#[]⟩⟩ : SIt)]++foursS I++[(⟨1,(n : Int),0,⟨#[]⟩⟩ : SIt)]
def leafS (I : List Int) (S : List (List Int)) : List SIt:=headS I S.length++slotS S
theorem put_rows {l : List SIt} (hl : l.length≤1000) (hm : ∀ a ∈ l.map itOf,may a=true) (hx : ∀ a ∈ l.map itOf,a.x=0) : pack_Put.f l=some (ones (l.map itOf),0)∧humusref03_Put.f l=some (ones (l.map itOf),true):=by
  have ha : (l.map itOf).all may=true:=by rw [List.all_eq_true]; exact hm
  have hbd : bdX l=true:=by
    unfold bdX
    rw [List.all_eq_true];intro x h;have:=hx (itOf x) (List.mem_map.2 ⟨x,h,rfl⟩);refine dt_ ?_
    rw [show x.f2=0 from this]; decide
  unfold pack_Put.f humusref03_Put.f
  have hb : l.length≤1000∧bdX l=true:=⟨hl,hbd⟩;rw [if_pos hb,if_pos hb,ha,if_pos rfl];exact ⟨rfl,rfl⟩
theorem foursS_drop {I : List Int} {i : Nat} (hi : i<I.length) : foursS (I.drop i)=⟨3,rd I (i : Int),0,⟨#[]⟩⟩ :: foursS (I.drop (i + 1)):=by
  have h:=rdB_at hi;rw [List.getElem?_eq_getElem hi] at h
  injection h with h
  rw [← h,List.drop_eq_getElem_cons hi]; rfl
theorem slotS_drop {S : List (List Int)} {i : Nat} (hi : i<S.length) : slotS (S.drop i)=⟨5,0,0,strOfNums (rd_L2 S (i : Int))⟩ :: slotS (S.drop (i + 1)):=by
  rw [drop_rd hi]; rfl
theorem leafS_may {I : List Int} {S : List (List Int)} (hI : ∀ w ∈ I,0≤w∧w≤2147483647) (hS : S.length≤64) (h5 : ∀ s ∈ S,s.length≤255) : ∀ a ∈ (leafS I S).map itOf,may a=true∧a.x=0:=by
  intro a ha
  unfold leafS headS foursS slotS at ha
  simp only [List.map_append,List.map_map,List.mem_append,List.map_cons,List.map_nil,List.mem_singleton,List.mem_map] at ha
  rcases ha with ((rfl | ⟨w,hw,rfl⟩)|rfl) | ⟨s,hs,rfl⟩
  · exact ⟨by show may ⟨1,76,0,⟨#[]⟩⟩=true; rw [may_1,nil_str]; rfl,rfl⟩
  · have:=hI w hw
    exact ⟨by show may ⟨3,w,0,⟨#[]⟩⟩=true; rw [may_3,nil_str]; simp; omega,rfl⟩
  · exact ⟨by show may ⟨1,(S.length : Int),0,⟨#[]⟩⟩=true; rw [may_1,nil_str]; simp; omega,rfl⟩
  · have:=h5 s hs
    exact ⟨by show may ⟨5,0,0,strOfNums s⟩=true; rw [may_5,size_strOf]; simp; omega,rfl⟩
theorem one_13 {k n : Int} {x : Nat} {s : ByteArray} (hk : k=1∨k=2∨k=3) : (one ⟨k,n,x,s⟩).length=(wid k).toNat:=by
  unfold one
  rw [if_pos (by exact hk),bigs_length]
theorem one_5 {n : Int} {x : Nat} {s : ByteArray} : one ⟨5,n,x,s⟩=(s.size : Int) :: bytesOf s:=by
  unfold one
  rw [if_neg (show ¬ ((5 : Int)=1∨(5 : Int)=2∨(5 : Int)=3) by decide),if_neg (show ¬ ((5 : Int)=4) by decide)]
theorem ones_nil : ones []=[]:=rfl
theorem ones_cons (a : It) (l : List It) : ones (a :: l)=one a++ones l:=by unfold ones; rw [List.flatMap_cons]
theorem headS_len {I : List Int} {n : Nat} (h4 : I.length=4) : (ones ((headS I n).map itOf)).length=18:=by
  obtain ⟨a,b,c,d,rfl⟩:=four h4
  unfold headS foursS
  simp only [List.map_append,List.map_cons,List.map_nil,List.cons_append,List.nil_append,itOf,ones_cons,ones_nil,List.length_append,List.length_nil]
  rw [one_13 (.inl rfl),one_13 (.inr (.inr rfl)),one_13 (.inr (.inr rfl)),one_13 (.inr (.inr rfl)),one_13 (.inr (.inr rfl)),one_13 (.inl rfl)];rfl
theorem slotS_len : ∀ S : List (List Int),((ones ((slotS S).map itOf)).length : Int)=slotsL S
  | []=>rfl
  | s :: S=>by
    have ih:=slotS_len S;have e : (slotS (s :: S)).map itOf=⟨5,0,0,strOfNums s⟩ :: (slotS S).map itOf:=rfl;rw [e,ones_cons,one_5,List.length_append,List.length_cons,bytesOf_length,size_strOf]
    simp only [slotsL]
    omega
def pageL (I : List Int) (S : List (List Int)) : List Int:=ones ((leafS I S).map itOf)++List.replicate (508 - (ones ((leafS I S).map itOf)).length) 0
theorem leafS_len {I : List Int} {S : List (List Int)} (h4 : I.length=4) : ((ones ((leafS I S).map itOf)).length : Int)=needL S:=by
  have h1:=headS_len (n:=S.length) h4;have h2:=slotS_len S
  unfold leafS needL
  rw [List.map_append,ones_append,List.length_append];omega
theorem MayL_parts {I : List Int} {S : List (List Int)} (h : MayL I S) : I.length=4∧(∀ w ∈ I,0≤w∧w≤2147483647)∧S.length≤64∧(∀ s ∈ S,s.length≤255)∧needL S≤508:=by
  obtain ⟨⟨a,b,c,d,rfl,ho⟩,hS⟩:=h;refine ⟨rfl,?_,hS.1,hS.2.2.1,hS.2.2.2⟩;intro w hw
  simp only [List.mem_cons,List.not_mem_nil,or_false] at hw
  rcases hw with rfl|rfl|rfl|rfl
  · exact ho.1
  · exact ho.2.1
  · exact ho.2.2.1
  · exact ho.2.2.2.1
theorem leafS_bytes {I : List Int} {S : List (List Int)} (h : MayL I S) : Bytes (ones ((leafS I S).map itOf))∧(ones ((leafS I S).map itOf)).length≤508:=by
  obtain ⟨h4,hI,h64,h5,hn⟩:=MayL_parts h
  exact ⟨ones_bytes (fun a ha=>(leafS_may hI h64 h5 a ha).1),by have:=leafS_len (S:=S) h4; omega⟩
theorem rep0_bytes (n : Nat) : Bytes (List.replicate n 0):=by
  intro x hx;rw [List.mem_replicate] at hx;omega
theorem pageL_bytes {I : List Int} {S : List (List Int)} (h : MayL I S) : Bytes (pageL I S)∧(pageL I S).length=508:=by
  have:=leafS_bytes h;refine ⟨this.1.append (rep0_bytes _),?_⟩
  unfold pageL
  rw [List.length_append,List.length_replicate];omega
theorem put_leaf {I : List Int} {S : List (List Int)} (h : MayL I S) : pack_Put.f (leafS I S)=some (ones ((leafS I S).map itOf),0)∧humusref03_Put.f (leafS I S)=some (ones ((leafS I S).map itOf),true):=by
  obtain ⟨h4,hI,h64,h5,hn⟩:=MayL_parts h;have hm:=leafS_may hI h64 h5
  refine put_rows ?_ (fun a ha=>(hm a ha).1) (fun a ha=>(hm a ha).2)
  unfold leafS headS foursS slotS
  simp only [List.length_append,List.length_map,List.length_cons,List.length_nil]
  omega
theorem pag_l2 {k : Nat} (hk : 5000≤k) : ∀ (d : Nat) (l : List Int),Bytes l→l.length + d=508→humusref08_Page.l2 (k + d + 1) l=some (sealL (l++List.replicate d 0)):=by
  intro d
  induction d with
  | zero =>
    intro l hb hl
    rw [show k + 0 + 1=k + 1 from rfl,humusref08_Page.l2_s,if_neg (by omega),rSeal_ev hb (by omega) (by omega),show List.replicate 0 (0 : Int)=[] from rfl,List.append_nil]; rfl
  | succ d ih =>
    intro l hb hl
    rw [show k + (d + 1) + 1=(k + d + 1) + 1 by omega,humusref08_Page.l2_s,if_pos (by omega),if_pos (by omega),ih (l++[0]) (hb.append (rep0_bytes 1)) (by rw [List.length_append,List.length_singleton]; omega),List.append_assoc,List.replicate_succ]; rfl
theorem pag_l1 {k : Nat} {l : List Int} {S : List (List Int)} {b : Bool} (hS : S.length≤1000) (hb : Bytes l) (hl : l.length≤508) (hk : 6000≤k) (I : List Int) : ∀ (d i : Nat) (xs : List SIt),i + d=S.length→xs.length + d≤2000→humusref03_Put.f (xs++slotS (S.drop i))=some (l,b)→humusref08_Page.l1 (k + d + 1) xs (i : Int) I S=some (sealL (l++List.replicate (508 - l.length) 0)):=by
  intro d
  induction d with
  | zero =>
    intro i xs hi hx h
    obtain rfl : i=S.length:=by omega
    rw [List.drop_length,show slotS []=[] from rfl,List.append_nil] at h
    rw [humusref08_Page.l1,if_neg (by omega),h,Option.bind_some]
    obtain ⟨m,hm⟩ : ∃ m,k=m + (508 - l.length) + 1:=⟨k - (508 - l.length) - 1,by omega⟩
    rw [hm]
    exact pag_l2 (by omega) _ l hb (by omega)
  | succ d ih =>
    intro i xs hi hx h
    rw [slotS_drop (by omega),List.append_cons] at h
    rw [show k + (d + 1) + 1=(k + d + 1) + 1 by omega,humusref08_Page.l1,if_pos (by omega),if_pos (by omega),if_pos (by omega),wsucc (by omega)]
    exact ih (i + 1) _ (by omega) (by rw [List.length_append,List.length_singleton]; omega) h
theorem pag_l0 {k : Nat} {I : List Int} {S : List (List Int)} (hI : I.length=4) : ∀ (d i : Nat) (xs : List SIt),i + d=4→xs.length + d≤2000→humusref08_Page.l0 (k + d + 1) xs (i : Int) I S=humusref08_Page.l1 k (xs++foursS (I.drop i)++[(⟨1,(S.length : Int),0,⟨#[]⟩⟩ : SIt)]) 0 I S:=by
  intro d
  induction d with
  | zero =>
    intro i xs hi hx
    rw [humusref08_Page.l0,if_neg (by omega),if_pos (by omega),List.drop_eq_nil_of_le (by omega),show foursS []=[] from rfl,List.append_nil]
  | succ d ih =>
    intro i xs hi hx
    rw [show k + (d + 1) + 1=(k + d + 1) + 1 by omega,humusref08_Page.l0,if_pos (by omega),if_pos (by omega),if_pos (by omega),if_pos (by omega),wsucc (by omega),ih (i + 1) _ (by omega) (by rw [List.length_append,List.length_singleton]; omega),foursS_drop (I:=I) (i:=i) (by omega)]
    simp only [List.append_assoc,List.cons_append,List.nil_append]
theorem Page_ev {k : Nat} {I : List Int} {S : List (List Int)} (hM : MayL I S) (hk : 8000≤k) : humusref08_Page.f k I S=some (sealL (pageL I S)):=by
  obtain ⟨h4,hI,h64,h5,hn⟩:=MayL_parts hM;have hL:=leafS_bytes hM
  unfold humusref08_Page.f
  obtain ⟨m,rfl⟩ : ∃ m,k=(m + S.length + 1) + 4 + 1:=⟨k - (4 + S.length + 2),by omega⟩
  refine (pag_l0 h4 4 0 [(⟨1,76,0,⟨#[]⟩⟩ : SIt)] (by omega) (by simp)).trans ?_
  refine pag_l1 (b:=true) (by omega) hL.1 hL.2 (by omega) I S.length 0 _ (by omega) ?_ ?_
  · unfold foursS
    simp only [List.length_append,List.length_map,List.length_cons,List.length_nil,List.length_drop]
    omega
  · have:=(put_leaf hM).2
    rw [List.drop_zero,List.drop_zero];exact this
end Go.Proofs.Ytjigckhopkclgaa.P
namespace Go.Proofs.Ytjigckhopkclgaa.P
open Go.RowKit Ytjigckhopkclgaa Ytjigckhopkclgaa.Mem Ytjigckhopkclgaa.Pac YtjigckhopkclgaaW.PrintWords YtjigckhopkclgaaW.PrintLast YtjigckhopkclgaaW.PrintMore
abbrev LfT:=List Int × List (List Int) × Int
def dErr : LfT:=([],[],4)
abbrev hKs : List Int:=[1,3,3,3,3,1]
theorem reps1 (m : Nat) (x : Int) : reps m [x]=List.replicate m x:=by
  unfold reps
  induction m with
  | zero=>rfl
  | succ m ih=>rw [List.replicate_succ,List.flatten_cons,ih,List.replicate_succ]; rfl
theorem Repeat_ev {x c : Int} (h0 : 0≤c) (h1 : c≤1000) : slices_Repeat_int_int.f [x] c=some (List.replicate c.toNat x):=by
  unfold slices_Repeat_int_int.f
  rw [if_pos ⟨h0,h1,by simp⟩,reps1]
theorem Take_none {b ks : List Int} (hb : Bytes b) (hl : b.length≤1000000) (hks : ks.length≤1000000) (hok : kindsOk ks=true) (h : takes b 0 ks=none) : takeF b ks=some ([],0,4):=by
  unfold takeF takeR
  rw [if_pos ⟨byB_bytes.2 hb,hl,hks⟩,if_pos hok,h]; rfl
theorem Take_some {b ks : List Int} {l : List It} {r : Nat} (hb : Bytes b) (hl : b.length≤1000000) (hks : ks.length≤1000000) (hok : kindsOk ks=true) (h : takes b 0 ks=some (l,r)) : takeF b ks=some (l.map ofIt,(r : Int),0):=by
  unfold takeF takeR
  rw [if_pos ⟨byB_bytes.2 hb,hl,hks⟩,if_pos hok,h]
theorem nought_ev {l : List Int} (hl : l.length≤1000000) : leaf_nought.f l=some (!(l.any fun e=>e != 0)):=by
  unfold leaf_nought.f containsFunc_leaf_nought_1.f
  rw [if_pos hl]; rfl
def decC (k : Nat) (Y : List Int) (T : List (List Int)) : Option LfT:=(leaf_Check.f k Y T).bind fun t=>if t=0 then some (Y,T,0) else some dErr
theorem rdT_at {M : List SIt} {i : Nat} (h : i<M.length) : M.drop i=rd_T56 M (i : Int) :: M.drop (i + 1):=by
  rw [List.drop_eq_getElem_cons h]
  congr 1
  unfold rd_T56
  rw [Int.toNat_natCast,List.getD_eq_getElem?_getD,List.getElem?_eq_getElem h]; rfl
theorem rdT_mem {M : List SIt} {i : Nat} (h : i<M.length) : rd_T56 M (i : Int) ∈ M:=by
  unfold rd_T56
  rw [Int.toNat_natCast,List.getD_eq_getElem?_getD,List.getElem?_eq_getElem h];exact List.getElem_mem h
theorem dec_l1 {M : List SIt} (hM : ∀ a ∈ M,a.f3.size<256) (hl : M.length≤300) (k : Nat) (Y : List Int) : ∀ (d i : Nat) (T : List (List Int)),i + d=M.length→T.length + d≤600→leaf_Decode.l1 (k + 2 * d + 2) M (M.length : Int) (i : Int) Y T=decC k Y (T++(M.drop i).map (fun a=>bytesOf a.f3)):=by
  intro d
  induction d with
  | zero =>
    intro i T hi hT
    rw [show k + 2 * 0 + 2=k + 1 + 1 by omega,leaf_Decode.l1,df_ (by omega),leaf_Decode.j5,if_neg (by decide),List.drop_eq_nil_of_le (by omega),List.map_nil,List.append_nil]
    rfl
  | succ d ih =>
    intro i T hi hT
    have hlt : i<M.length:=by omega
    have:=hM _ (rdT_mem hlt)
    rw [show k + 2 * (d + 1) + 2=(k + 2 * d + 2) + 1 + 1 by omega,leaf_Decode.l1,dt_ (by omega),leaf_Decode.j5,if_pos rfl,if_pos (by omega),if_pos (by omega),if_pos (by omega),if_pos (by omega),wsucc (by omega),ih (i + 1) _ (by omega) (by rw [List.length_append,List.length_singleton]; omega),rdT_at hlt,List.map_cons,List.append_assoc]
    rfl
theorem dec_set (k : Nat) (x : List Int) (n : Int) (i0 i1 i2 i3 i4 i5 : SIt) : leaf_Decode.l0 (k + 5) x [i0,i1,i2,i3,i4,i5] n [0,0,0,0] 4 0=leaf_Decode.l0 (k + 1) x [i0,i1,i2,i3,i4,i5] n [i1.f1,i2.f1,i3.f1,i4.f1] 4 4:=by
  have w1 : wrap64 1=1:=by unfold wrap64; omega
  have w2 : wrap64 2=2:=by unfold wrap64; omega
  have w3 : wrap64 3=3:=by unfold wrap64; omega
  have w4 : wrap64 4=4:=by unfold wrap64; omega
  rw [leaf_Decode.l0,if_pos (by decide)]
  simp only [Int.add_zero,Int.zero_add,w1]
  rw [if_pos (by decide),if_pos (by simp),if_pos (by decide),if_pos (by decide),leaf_Decode.l0,if_pos (by decide)]
  simp only [Int.reduceAdd,w2]
  rw [if_pos (by decide),if_pos (by simp),if_pos (by decide),if_pos (by simp),leaf_Decode.l0,if_pos (by decide)]
  simp only [Int.reduceAdd,w3]
  rw [if_pos (by decide),if_pos (by simp),if_pos (by decide),if_pos (by simp),leaf_Decode.l0,if_pos (by decide)]
  simp only [Int.reduceAdd,w4]
  rw [if_pos (by decide),if_pos (by simp),if_pos (by decide),if_pos (by simp)]
  rfl
def decY (k : Nat) (x : List Int) (n : Nat) (I : List Int) (c : Int) : Option LfT :=
  match takes (x.drop n) 0 (List.replicate c.toNat 5) with
  | none=>some dErr
  | some (m,q)=>if ((x.drop (n + q)).any fun e=>e != 0)=true then some dErr else decC (k - 2 * m.length) I (m.map (fun a=>bytesOf a.s))
theorem rep5_ok (m : Nat) : kindsOk (List.replicate m 5)=true:=by
  unfold kindsOk
  rw [List.all_eq_true];intro x hx;rw [List.mem_replicate] at hx;rw [hx.2]; rfl
theorem dec_j3 (k : Nat) (M : List SIt) (Y : List Int) : leaf_Decode.j3 (k + 1) M true Y=some dErr:=by
  rw [leaf_Decode.j3,if_pos rfl]; rfl
theorem dec_mid {k : Nat} {x : List Int} {n : Nat} (hb : Bytes x) (hl : x.length≤100000) (hn : n≤x.length) (i0 i1 i2 i3 i4 i5 : It) (h0 : 0≤i5.n) (h1 : i5.n≤255) (hk : 1000≤k) :
    leaf_Decode.l0 (k + 5) x [ofIt i0,ofIt i1,ofIt i2,ofIt i3,ofIt i4,ofIt i5] (n : Int) [0,0,0,0] 4 0=decY (k - 3) x n [i1.n,i2.n,i3.n,i4.n] i5.n:=by
  rw [dec_set,leaf_Decode.l0,if_neg (by decide),if_pos (by omega),if_pos (by omega),if_pos (by simp)]
  have e5 : (rd_T56 [ofIt i0,ofIt i1,ofIt i2,ofIt i3,ofIt i4,ofIt i5] 5).f1=i5.n:=rfl
  rw [e5,Repeat_ev h0 (by omega),Option.bind_some]
  have hbd:=hb.drop n;have hld : (x.drop n).length=x.length - n:=List.length_drop
  unfold decY pack_Take.f
  rw [show ((n : Int)).toNat=n from Int.toNat_natCast n]
  have hrl : (List.replicate i5.n.toNat (5 : Int)).length≤1000000:=by rw [List.length_replicate]; omega
  obtain ⟨k,rfl⟩ : ∃ m,k=m + 1:=⟨k - 1,by omega⟩
  cases ht : takes (x.drop n) 0 (List.replicate i5.n.toNat 5) with
  | none =>
    rw [Take_none hbd (by omega) hrl (rep5_ok _) ht,Option.bind_some,if_neg (by decide)]
    exact dec_j3 _ _ _
  | some p =>
    obtain ⟨m,q⟩:=p;obtain ⟨t1,t2,t3,t4,t5,t6,t7⟩:=takes_spec hbd _ _ _ _ (Nat.zero_le _) (rep5_ok _) ht;have hml:=takes_len hbd (Nat.zero_le _) (rep5_ok _) ht;rw [List.length_replicate] at hml
    rw [Take_some hbd (by omega) hrl (rep5_ok _) ht,Option.bind_some]
    simp only
    have hw : wrap64 ((n : Int) + (q : Int))=((n + q : Nat) : Int):=by unfold wrap64; omega
    have g1 : (0 : Int)≤((n + q : Nat) : Int):=Int.natCast_nonneg _
    have g2 : ((n + q : Nat) : Int)≤(x.length : Int):=by clear t3 t7 ht hrl hml hw t4 t5 t6; omega
    have g3 : (x.drop (n + q)).length≤1000000:=Nat.le_trans (by rw [List.length_drop]; exact Nat.sub_le _ _) (Nat.le_trans hl (by decide))
    rw [if_pos trivial,hw,if_pos g1,if_pos g2,Int.toNat_natCast,nought_ev g3,Option.bind_some,Bool.not_not]
    cases hany : (x.drop (n + q)).any fun e=>e != 0 with
    | true=>rw [if_pos rfl]; exact dec_j3 _ _ _
    | false =>
      rw [if_neg (by decide),leaf_Decode.j3,if_neg (by decide)]
      have h5 : ∀ a ∈ m.map ofIt,a.f3.size<256:=by
        intro a ha;obtain ⟨y,hy,rfl⟩:=List.mem_map.1 ha
        have hk5 : y.k=5:=by
          have : y.k ∈ m.map (·.k):=List.mem_map.2 ⟨y,hy,rfl⟩;rw [t3,List.mem_replicate] at this;exact this.2
        exact (form5 (t4 y hy) hk5).2
      have hL:=@dec_l1 (m.map ofIt) h5 (by rw [List.length_map]; omega) (k + 1 - 3 - 2 * m.length) [i1.n,i2.n,i3.n,i4.n] m.length 0 [] (by rw [List.length_map]; omega) (by simp; omega)
      rw [show k + 1 - 3 - 2 * m.length + 2 * m.length + 2=k by omega,List.drop_zero,List.nil_append,List.map_map] at hL
      exact hL
theorem dec_j0 {k : Nat} {x : List Int} (hb : Bytes x) (hl : x.length≤100000) (hk : 1000≤k) :
    leaf_Decode.j0 (k + 7) x 0 false [0,0,0,0]=(match takes x 0 hKs with
      | some ([i0,i1,i2,i3,i4,i5],n)=>if i0.n=76 then decY (k - 3) x n [i1.n,i2.n,i3.n,i4.n] i5.n else some dErr
      | _=>some dErr):=by
  have hR : slices_Repeat_int_int.f [3] 4=some [3,3,3,3]:=Repeat_ev (by decide) (by decide)
  rw [leaf_Decode.j0,if_neg (by decide),Option.bind_some,hR,Option.bind_some,if_pos (by decide),Option.bind_some,if_pos (by decide)]
  unfold pack_Take.f
  rw [show ([1]++[3,3,3,3]++[1] : List Int)=hKs from rfl]
  have j1T : ∀ M n,leaf_Decode.j1 (k + 6) x M n true [0,0,0,0]=some dErr:=fun M n=>by rw [leaf_Decode.j1,if_pos rfl]; rfl
  cases ht : takes x 0 hKs with
  | none =>
    rw [Take_none hb (by omega) (by decide) (by decide) ht,Option.bind_some,if_neg (by decide)]
    exact j1T _ _
  | some p =>
    obtain ⟨l,n⟩:=p
    obtain ⟨t1,t2,t3,t4,t5,t6,t7⟩:=takes_spec hb _ _ _ _ (Nat.zero_le _) (by decide) ht
    have h6 : l.length=6:=takes_len hb (Nat.zero_le _) (by decide) ht
    obtain ⟨i0,i1,i2,i3,i4,i5,rfl⟩ : ∃ a b c d e f,l=[a,b,c,d,e,f]:=by
      match l,h6 with
      | [a,b,c,d,e,f],_=>exact ⟨a,b,c,d,e,f,rfl⟩
    rw [Take_some hb (by omega) (by decide) (by decide) ht,Option.bind_some]
    simp only
    simp only [List.map_cons,List.map_nil,List.cons.injEq,and_true] at t3
    obtain ⟨k0,k1,k2,k3,k4,k5⟩:=t3
    have f5:=(form123 (t4 i5 (by simp)) (.inl k5)).2
    rw [k5] at f5
    rw [if_pos trivial,if_pos (by simp)]
    simp only [List.map_cons,List.map_nil]
    have e0 : (rd_T56 [ofIt i0,ofIt i1,ofIt i2,ofIt i3,ofIt i4,ofIt i5] 0).f1=i0.n:=rfl;rw [e0]
    by_cases hm : i0.n=76
    · rw [if_pos hm,bne_eq_false_iff_eq.2 hm,leaf_Decode.j1,if_neg (by decide)]
      exact dec_mid hb hl t2 i0 i1 i2 i3 i4 i5 f5.1 f5.2 hk
    · rw [if_neg hm,bne_iff_ne.2 hm]
      exact j1T _ _
def ByS (S : List (List Int)) : Prop:=∀ s ∈ S,Bytes s
theorem norm0 {l : List It} (h : ∀ a ∈ l,a.x=0) : l.map norm=l:=by
  refine (List.map_congr_left (g:=id) (fun a ha=>?_)).trans (List.map_id l)
  obtain ⟨k,n,x,s⟩:=a;have : x=0:=h _ ha;subst this
  unfold norm
  simp only [val0]; rfl
theorem dec_page {k : Nat} {I : List Int} {S : List (List Int)} (hM : MayL I S) (hB : ByS S) (hk : 3000≤k) : leaf_Decode.j0 k (pageL I S) 0 false [0,0,0,0]=some (I,S,0):=by
  obtain ⟨k,rfl⟩ : ∃ m,k=m + 7:=⟨k - 7,by omega⟩
  obtain ⟨h4,hI,h64,h5,hn⟩:=MayL_parts hM
  have hs : Small S:=⟨by omega,fun s h=>by have:=h5 s h; omega⟩
  have hP:=pageL_bytes hM;have hm:=leafS_may hI h64 h5
  have hmH : ∀ a ∈ (headS I S.length).map itOf,may a=true∧a.x=0:=fun a ha=>hm a (by unfold leafS; rw [List.map_append]; exact List.mem_append.2 (.inl ha))
  have hmS : ∀ a ∈ (slotS S).map itOf,may a=true∧a.x=0:=fun a ha=>hm a (by unfold leafS; rw [List.map_append]; exact List.mem_append.2 (.inr ha))
  have hx : ∀ {l : List It},(∀ a ∈ l,may a=true∧a.x=0)→∀ a ∈ l,a.x<18446744073709551616:=fun h a ha=>by rw [(h a ha).2]; decide
  rw [dec_j0 hP.1 (by omega) (by omega)]
  have e : pageL I S=ones ((headS I S.length).map itOf)++(ones ((slotS S).map itOf)++List.replicate (508 - (ones ((leafS I S).map itOf)).length) 0):=by
    unfold pageL
    rw [show (leafS I S).map itOf=(headS I S.length).map itOf++(slotS S).map itOf from by unfold leafS; rw [List.map_append],ones_append,List.append_assoc]
  have hl18:=headS_len (n:=S.length) h4
  have T1:=takes_ones _ (fun a ha=>(hmH a ha).1) (hx hmH) [] (ones ((slotS S).map itOf)++List.replicate (508 - (ones ((leafS I S).map itOf)).length) 0)
  rw [List.nil_append,← e,List.length_nil,Nat.zero_add,norm0 (fun a ha=>(hmH a ha).2),hl18] at T1
  have T2:=takes_ones _ (fun a ha=>(hmS a ha).1) (hx hmS) [] (List.replicate (508 - (ones ((leafS I S).map itOf)).length) 0)
  have hd : (pageL I S).drop 18=ones ((slotS S).map itOf)++List.replicate (508 - (ones ((leafS I S).map itOf)).length) 0:=by rw [e,List.drop_left' hl18]
  rw [List.nil_append,← hd,List.length_nil,Nat.zero_add,norm0 (fun a ha=>(hmS a ha).2)] at T2
  have hk5 : ((slotS S).map itOf).map (·.k)=List.replicate S.length 5:=by
    unfold slotS
    rw [List.map_map,List.map_map];exact List.map_const' ..
  rw [hk5] at T2
  have hd2 : (pageL I S).drop (18 + (ones ((slotS S).map itOf)).length)=List.replicate (508 - (ones ((leafS I S).map itOf)).length) 0:=by
    rw [← List.drop_drop,hd,List.drop_left' rfl]
  obtain ⟨a,b,c,d,rfl⟩:=four h4;have hkH : ((headS [a,b,c,d] S.length).map itOf).map (·.k)=hKs:=rfl;rw [hkH] at T1;rw [T1];have eH : (headS [a,b,c,d] S.length).map itOf=[(⟨1,76,0,⟨#[]⟩⟩ : It),⟨3,a,0,⟨#[]⟩⟩,⟨3,b,0,⟨#[]⟩⟩,⟨3,c,0,⟨#[]⟩⟩,⟨3,d,0,⟨#[]⟩⟩,⟨1,(S.length : Int),0,⟨#[]⟩⟩]:=rfl;rw [eH]
  simp only
  rw [if_pos trivial]
  unfold decY
  rw [Int.toNat_natCast,T2]
  simp only
  have hz : ((pageL [a,b,c,d] S).drop (18 + (ones ((slotS S).map itOf)).length)).any (fun e=>e != 0)=false:=by
    rw [hd2,List.any_eq_false];intro x hx;rw [List.mem_replicate] at hx;rw [hx.2]; decide
  rw [hz,if_neg (by decide)]
  have hT : ((slotS S).map itOf).map (fun a=>bytesOf a.s)=S:=by
    unfold slotS
    rw [List.map_map,List.map_map]
    refine (List.map_congr_left (g:=id) (fun s hs=>?_)).trans (List.map_id S)
    exact bytesOf_str (hB s hs)
  have hlen : ((slotS S).map itOf).length=S.length:=by unfold slotS; rw [List.length_map,List.length_map]
  rw [hlen,hT]
  unfold decC
  rw [(Check_ev hs (by omega)).1 hM,Option.bind_some,if_pos rfl]
end Go.Proofs.Ytjigckhopkclgaa.P
namespace Go.Proofs.Ytjigckhopkclgaa.P
open Go.RowKit Ytjigckhopkclgaa Ytjigckhopkclgaa.Mem Ytjigckhopkclgaa.Pac YtjigckhopkclgaaW.PrintWords YtjigckhopkclgaaW.PrintLast YtjigckhopkclgaaW.PrintMore
def IsPage (x : List Int) : Prop:=∃ I S,MayL I S∧ByS S∧x=pageL I S
theorem leafS_it {a b c d : Int} {S : List (List Int)} : (leafS [a,b,c,d] S).map itOf=(⟨1,76,0,⟨#[]⟩⟩ : It) :: ⟨3,a,0,⟨#[]⟩⟩ :: ⟨3,b,0,⟨#[]⟩⟩ :: ⟨3,c,0,⟨#[]⟩⟩ :: ⟨3,d,0,⟨#[]⟩⟩ :: ⟨1,(S.length : Int),0,⟨#[]⟩⟩ :: (slotS S).map itOf:=rfl
theorem slot_of {m : List It} (hm : ∀ a ∈ m,may a=true) (hk : ∀ a ∈ m,a.k=5) : (slotS (m.map (fun a=>bytesOf a.s))).map itOf=m:=by
  unfold slotS
  rw [List.map_map,List.map_map]
  refine (List.map_congr_left (g:=id) (fun a ha=>?_)).trans (List.map_id m)
  have h:=(form5 (hm a ha) (hk a ha)).1
  show (⟨5,0,0,strOfNums (bytesOf a.s)⟩ : It)=a
  rw [str_bytesOf];exact h.symm
theorem zeros_of {l : List Int} (h : (l.any fun e=>e != 0)=false) : l=List.replicate l.length 0:=by
  rw [List.eq_replicate_iff]
  refine ⟨rfl,fun x hx=>?_⟩
  rw [List.any_eq_false] at h;have:=h x hx
  simpa using this
theorem k5_of {m : List It} {n : Nat} (h : m.map (·.k)=List.replicate n 5) : ∀ a ∈ m,a.k=5:=fun a ha=>by
  have : a.k ∈ m.map (·.k):=List.mem_map.2 ⟨a,ha,rfl⟩;rw [h,List.mem_replicate] at this;exact this.2
theorem dec_none {k : Nat} {x : List Int} (hb : Bytes x) (hl : x.length=508) (hk : 3000≤k) (hN : ¬ IsPage x) : leaf_Decode.j0 k x 0 false [0,0,0,0]=some dErr:=by
  obtain ⟨k,rfl⟩ : ∃ m,k=m + 7:=⟨k - 7,by omega⟩
  rw [dec_j0 hb (by omega) (by omega)]
  cases ht : takes x 0 hKs with
  | none=>rfl
  | some p =>
    obtain ⟨l,n⟩:=p
    obtain ⟨t1,t2,t3,t4,t5,t6,t7⟩:=takes_spec hb _ _ _ _ (Nat.zero_le _) (by decide) ht
    have h6 : l.length=6:=takes_len hb (Nat.zero_le _) (by decide) ht
    obtain ⟨i0,i1,i2,i3,i4,i5,rfl⟩ : ∃ a b c d e f,l=[a,b,c,d,e,f]:=by
      match l,h6 with
      | [a,b,c,d,e,f],_=>exact ⟨a,b,c,d,e,f,rfl⟩
    simp only
    by_cases h76 : i0.n=76
    rotate_left
    · rw [if_neg h76]
    rw [if_pos h76]
    unfold decY
    have hbd:=hb.drop n
    cases hs : takes (x.drop n) 0 (List.replicate i5.n.toNat 5) with
    | none=>rfl
    | some p =>
      obtain ⟨m,q⟩:=p;obtain ⟨s1,s2,s3,s4,s5,s6,s7⟩:=takes_spec hbd _ _ _ _ (Nat.zero_le _) (rep5_ok _) hs;have hml:=takes_len hbd (Nat.zero_le _) (rep5_ok _) hs;rw [List.length_replicate] at hml
      simp only
      cases hany : (x.drop (n + q)).any fun e=>e != 0 with
      | true=>rw [if_pos rfl]
      | false =>
        rw [if_neg (by decide)]
        simp only [List.map_cons,List.map_nil,List.cons.injEq,and_true] at t3
        obtain ⟨k0,k1,k2,k3,k4,k5⟩:=t3;have hk5:=k5_of s3
        have f0:=(form123 (t4 i0 (by simp)) (.inl k0)).1
        have f1:=(form123 (t4 i1 (by simp)) (.inr (.inr k1))).1
        have f2:=(form123 (t4 i2 (by simp)) (.inr (.inr k2))).1
        have f3:=(form123 (t4 i3 (by simp)) (.inr (.inr k3))).1
        have f4:=(form123 (t4 i4 (by simp)) (.inr (.inr k4))).1
        have f5:=form123 (t4 i5 (by simp)) (.inl k5)
        have f5b:=f5.2;have f5:=f5.1;rw [k0,h76] at f0; rw [k1] at f1; rw [k2] at f2; rw [k3] at f3; rw [k4] at f4; rw [k5] at f5 f5b
        have hc : i5.n=(m.length : Int):=by rw [hml]; exact (Int.toNat_of_nonneg f5b.1).symm
        have hsm : Small (m.map (fun a=>bytesOf a.s)):=by
          refine ⟨by rw [List.length_map,hml]; have:=f5b.2; have : lim 1=255:=rfl; omega,fun s hs=>?_⟩
          obtain ⟨a,ha,rfl⟩:=List.mem_map.1 hs;have:=(form5 (s4 a ha) (hk5 a ha)).2;rw [bytesOf_length]; omega
        unfold decC
        by_cases hM : MayL [i1.n,i2.n,i3.n,i4.n] (m.map (fun a=>bytesOf a.s))
        · exfalso
          refine hN ⟨_,_,hM,?_,?_⟩
          · intro s hs
            obtain ⟨a,ha,rfl⟩:=List.mem_map.1 hs;exact bytesOf_bytes a.s
          · have e : (leafS [i1.n,i2.n,i3.n,i4.n] (m.map (fun a=>bytesOf a.s))).map itOf=[i0,i1,i2,i3,i4,i5]++m:=by
              rw [leafS_it,slot_of s4 hk5,List.length_map,← hc,← f0,← f1,← f2,← f3,← f4,← f5]; rfl
            unfold pageL
            rw [e,ones_append,t7,s7,List.drop_zero,List.drop_zero,Nat.sub_zero,Nat.sub_zero]
            have ex : x=x.take n++((x.drop n).take q++x.drop (n + q)):=by
              rw [← List.drop_drop,List.take_append_drop,List.take_append_drop]
            have hlen : (x.take n++(x.drop n).take q).length=n + q:=by
              rw [List.length_append,List.length_take,List.length_take,List.length_drop];rw [List.length_drop] at s2;omega
            rw [hlen,List.append_assoc];have hz:=zeros_of hany;rw [List.length_drop,hl] at hz;rw [← hz];exact ex
        · have hlim : lim 1=255:=rfl
          rw [(Check_ev hsm (by omega)).2 hM,Option.bind_some,if_neg (by decide)]
def refC (k : Nat) (b I : List Int) (T : List (List Int)) : Option LfT:=(humusref08_May.f k I T).bind fun t=>if t=true then (humusref08_Page.f k I T).bind fun p=>if (strOfNums p).toList=(strOfNums b).toList then some (I,T,0) else some dErr else some dErr
theorem refC_ev {k : Nat} {b I : List Int} {T : List (List Int)} (hb : Bytes b) (hs : Small T) (hk : 8000≤k) : ((MayL I T∧b=sealL (pageL I T))→refC k b I T=some (I,T,0))∧(¬ (MayL I T∧b=sealL (pageL I T))→refC k b I T=some dErr):=by
  unfold refC
  by_cases hM : MayL I T
  · rw [(May_ev hs (by omega)).1 hM,Option.bind_some,if_pos rfl,Page_ev hM hk,Option.bind_some]
    have hq:=str_eq (sealL_bytes (pageL_bytes hM).1) hb
    by_cases he : b=sealL (pageL I T)
    · rw [he,if_pos rfl]; exact ⟨fun _=>rfl,fun h=>absurd ⟨hM,rfl⟩ h⟩
    · rw [if_neg (by intro h; rw [h,beq_self_eq_true] at hq; exact he (od_ hq.symm).symm)]
      exact ⟨fun h=>absurd h.2 he,fun _=>rfl⟩
  · rw [(May_ev hs (by omega)).2 hM,Option.bind_some,if_neg (by decide)]
    exact ⟨fun h=>absurd h.1 hM,fun _=>rfl⟩
theorem ref_l2 {M : List SIt} (hM : ∀ a ∈ M,a.f3.size≤1000) (hl : M.length≤300) (k : Nat) (b I : List Int) : ∀ (d i : Nat) (T : List (List Int)),i + d=M.length→T.length + d≤600→humusref08_Decode.l2 (k + d + 1) b M (i : Int) I T=refC k b I (T++(M.drop i).map (fun a=>bytesOf a.f3)):=by
  intro d
  induction d with
  | zero =>
    intro i T hi hT
    rw [humusref08_Decode.l2,if_neg (by omega),List.drop_eq_nil_of_le (by omega),List.map_nil,List.append_nil]
    rfl
  | succ d ih =>
    intro i T hi hT
    have hlt : i<M.length:=by omega
    have:=hM _ (rdT_mem hlt)
    rw [show k + (d + 1) + 1=(k + d + 1) + 1 by omega,humusref08_Decode.l2,if_pos (by omega),if_pos (by omega),if_pos (by omega),if_pos (by omega),wsucc (by omega),ih (i + 1) _ (by omega) (by rw [List.length_append,List.length_singleton]; omega),rdT_at hlt,List.map_cons,List.append_assoc]
    rfl
theorem ref_l1 {x : List Int} {c : Nat} (hc : rd x 17=(c : Int)) (hc2 : c≤255) (hl : 18≤x.length) (k : Nat) (b : List Int) : ∀ (d i : Nat) (ks : List Int),i + d=c→ks.length + d≤1000→humusref08_Decode.l1 (k + d + 1) b x ks (i : Int)=(humusref03_Take.f x (ks++List.replicate d 5)).bind fun bt=>humusref08_Decode.j3 k b bt.1 (bt.2.2 != 0):=by
  have hw : wrap64 (c : Int)=(c : Int):=by unfold wrap64; omega
  intro d
  induction d with
  | zero =>
    intro i ks hi hT
    rw [humusref08_Decode.l1,if_pos (by omega),hc,hw,if_neg (by omega),List.replicate_zero,List.append_nil]
  | succ d ih =>
    intro i ks hi hT
    rw [show k + (d + 1) + 1=(k + d + 1) + 1 by omega,humusref08_Decode.l1,if_pos (by omega),hc,hw,if_pos (by omega),if_pos (by omega),wsucc (by omega),ih (i + 1) _ (by omega) (by rw [List.length_append,List.length_singleton]; omega),List.append_assoc,List.replicate_succ]
    rfl
theorem ref_j3 {k : Nat} {b : List Int} {l : List It} (i0 i1 i2 i3 i4 i5 : It) (m : List It) (he : l=i0 :: i1 :: i2 :: i3 :: i4 :: i5 :: m) (hM : ∀ a ∈ l,a.s.size≤1000) (hl : m.length≤255) : humusref08_Decode.j3 (k + m.length + 2) b (l.map ofIt) false=refC k b [i1.n,i2.n,i3.n,i4.n] (m.map (fun a=>bytesOf a.s)):=by
  subst he
  have hlen : ((i0 :: i1 :: i2 :: i3 :: i4 :: i5 :: m).map ofIt).length=m.length + 6:=by simp
  have hS : ∀ a ∈ (i0 :: i1 :: i2 :: i3 :: i4 :: i5 :: m).map ofIt,a.f3.size≤1000:=by
    intro a ha;obtain ⟨y,hy,rfl⟩:=List.mem_map.1 ha;exact hM y hy
  have h:=ref_l2 hS (by omega) k b [i1.n,i2.n,i3.n,i4.n] m.length 6 [] (by omega) (by simp; omega)
  rw [show k + m.length + 2=(k + m.length + 1) + 1 by omega,humusref08_Decode.j3,if_neg (by decide),if_pos (by omega),if_pos (by omega),if_pos (by omega),if_pos (by omega)]
  refine h.trans ?_;rw [List.nil_append,List.map_cons,List.map_cons,List.map_cons,List.map_cons,List.map_cons,List.map_cons]
  show refC k b _ ((m.map ofIt).map _)=_
  rw [List.map_map]; rfl
theorem page_17 {I : List Int} {S : List (List Int)} (hM : MayL I S) : rd (pageL I S) 17=(S.length : Int):=by
  obtain ⟨h4,hI,h64,h5,hn⟩:=MayL_parts hM;obtain ⟨a,b,c,d,rfl⟩:=four h4
  have e : pageL [a,b,c,d] S=bigs 76 1++(bigs a 4++(bigs b 4++(bigs c 4++(bigs d 4++(bigs (S.length : Int) 1++(ones ((slotS S).map itOf)++List.replicate (508 - (ones ((leafS [a,b,c,d] S).map itOf)).length) 0)))))):=by
    unfold pageL
    rw [leafS_it]
    simp only [ones_cons,List.append_assoc]
    rfl
  have hb1 : bigs (S.length : Int) 1=[(S.length : Int)]:=by
    unfold bigs bigs
    simp
    omega
  rw [e,hb1]
  unfold rd
  rw [List.getD_eq_getElem?_getD,List.getElem?_append_right (by rw [bigs_length]; decide),List.getElem?_append_right (by rw [bigs_length,bigs_length]; decide),List.getElem?_append_right (by rw [bigs_length,bigs_length,bigs_length]; decide),List.getElem?_append_right (by rw [bigs_length,bigs_length,bigs_length,bigs_length]; decide),List.getElem?_append_right (by rw [bigs_length,bigs_length,bigs_length,bigs_length,bigs_length]; decide),bigs_length,bigs_length,bigs_length,bigs_length,bigs_length]
  rfl
theorem page_takes {I : List Int} {S : List (List Int)} (hM : MayL I S) : ∃ r,takes (pageL I S) 0 (hKs++List.replicate S.length 5)=some ((leafS I S).map itOf,r):=by
  obtain ⟨h4,hI,h64,h5,hn⟩:=MayL_parts hM;have hm:=leafS_may hI h64 h5
  have T:=takes_ones _ (fun a ha=>(hm a ha).1) (fun a ha=>by rw [(hm a ha).2]; decide) [] (List.replicate (508 - (ones ((leafS I S).map itOf)).length) 0)
  rw [List.nil_append,List.length_nil,Nat.zero_add,norm0 (fun a ha=>(hm a ha).2)] at T
  have hk : ((leafS I S).map itOf).map (·.k)=hKs++List.replicate S.length 5:=by
    obtain ⟨a,b,c,d,rfl⟩:=four h4;rw [leafS_it]
    have : ((slotS S).map itOf).map (·.k)=List.replicate S.length 5:=by
      unfold slotS
      rw [List.map_map,List.map_map];exact List.map_const' ..
    rw [List.map_cons,List.map_cons,List.map_cons,List.map_cons,List.map_cons,List.map_cons,this]; rfl
  rw [hk] at T;exact ⟨_,T⟩
theorem kinds_all (m : Nat) : kindsOk (hKs++List.replicate m 5)=true:=by
  have:=rep5_ok m
  unfold kindsOk at this ⊢
  rw [List.all_append,this]; rfl
theorem ref_page {k : Nat} {I : List Int} {S : List (List Int)} (hM : MayL I S) (hB : ByS S) (hk : 9000≤k) : humusref08_Decode.j1 k (sealL (pageL I S)) (pageL I S) hKs 0=some (I,S,0):=by
  obtain ⟨h4,hI,h64,h5,hn⟩:=MayL_parts hM
  have hs : Small S:=⟨by omega,fun s h=>by have:=h5 s h; omega⟩
  have hP:=pageL_bytes hM;have hm:=leafS_may hI h64 h5;obtain ⟨r,hT⟩:=page_takes hM
  obtain ⟨m,rfl⟩ : ∃ m,k=(m + S.length + 2) + S.length + 1 + 1:=⟨k - (2 * S.length + 4),by omega⟩
  rw [humusref08_Decode.j1]
  refine (ref_l1 (page_17 hM) (by omega) (by omega) _ _ S.length 0 hKs (by omega) (by have : (hKs : List Int).length=6:=rfl; omega)).trans ?_
  unfold humusref03_Take.f
  rw [Take_some hP.1 (by omega) (by rw [List.length_append,List.length_replicate]; have : (hKs : List Int).length=6:=rfl; omega) (kinds_all _) hT,Option.bind_some]
  obtain ⟨a,b,c,d,rfl⟩:=four h4
  have hlen : ((slotS S).map itOf).length=S.length:=by unfold slotS; rw [List.length_map,List.length_map]
  have hz : ∀ y ∈ (leafS [a,b,c,d] S).map itOf,y.s.size≤1000:=by
    intro y hy;rw [leafS_it] at hy
    rcases List.mem_cons.1 hy with rfl|hy; · exact (show (⟨#[]⟩ : ByteArray).size≤1000 by decide)
    rcases List.mem_cons.1 hy with rfl|hy; · exact (show (⟨#[]⟩ : ByteArray).size≤1000 by decide)
    rcases List.mem_cons.1 hy with rfl|hy; · exact (show (⟨#[]⟩ : ByteArray).size≤1000 by decide)
    rcases List.mem_cons.1 hy with rfl|hy; · exact (show (⟨#[]⟩ : ByteArray).size≤1000 by decide)
    rcases List.mem_cons.1 hy with rfl|hy; · exact (show (⟨#[]⟩ : ByteArray).size≤1000 by decide)
    rcases List.mem_cons.1 hy with rfl|hy; · exact (show (⟨#[]⟩ : ByteArray).size≤1000 by decide)
    unfold slotS at hy
    rw [List.map_map] at hy;obtain ⟨s,hs,rfl⟩:=List.mem_map.1 hy;have:=h5 s hs
    show (strOfNums s).size≤1000
    rw [size_strOf]; omega
  have hj:=ref_j3 (k:=m) (b:=sealL (pageL [a,b,c,d] S)) _ _ _ _ _ _ _ (leafS_it (a:=a) (b:=b) (c:=c) (d:=d) (S:=S)) hz (by omega)
  rw [hlen] at hj;refine hj.trans ?_
  have hTS : ((slotS S).map itOf).map (fun a=>bytesOf a.s)=S:=by
    unfold slotS
    rw [List.map_map,List.map_map]
    refine (List.map_congr_left (g:=id) (fun s hs=>?_)).trans (List.map_id S)
    exact bytesOf_str (hB s hs)
  rw [hTS]
  exact (refC_ev (sealL_bytes hP.1) hs (by omega)).1 ⟨hM,rfl⟩
theorem ref_none {k : Nat} {x : List Int} (hb : Bytes x) (hl : x.length=508) (hk : 9000≤k) (hN : ¬ IsPage x) : humusref08_Decode.j1 k (sealL x) x hKs 0=some dErr:=by
  have h17:=hb.at_ 17 (by omega)
  obtain ⟨c,hc⟩ : ∃ c : Nat,rd x 17=(c : Int):=⟨(rd x 17).toNat,by have : rd x ((17 : Nat) : Int)=rd x 17:=rfl; omega⟩
  have hc2 : c≤255:=by have : rd x ((17 : Nat) : Int)=rd x 17:=rfl; omega
  obtain ⟨m,rfl⟩ : ∃ m,k=(m + c + 2) + c + 1 + 1:=⟨k - (2 * c + 4),by omega⟩
  rw [humusref08_Decode.j1]
  refine (ref_l1 hc hc2 (by omega) _ _ c 0 hKs (by omega) (by have : (hKs : List Int).length=6:=rfl; omega)).trans ?_
  unfold humusref03_Take.f
  have hkl : (hKs++List.replicate c 5 : List Int).length=6 + c:=by rw [List.length_append,List.length_replicate]; rfl
  cases ht : takes x 0 (hKs++List.replicate c 5) with
  | none =>
    rw [Take_none hb (by omega) (by omega) (kinds_all _) ht,Option.bind_some]
    rw [show m + c + 2=(m + c + 1) + 1 by omega,humusref08_Decode.j3,if_pos (by decide)]; rfl
  | some p =>
    obtain ⟨l,n⟩:=p;obtain ⟨t1,t2,t3,t4,t5,t6,t7⟩:=takes_spec hb _ _ _ _ (Nat.zero_le _) (kinds_all _) ht;have hll : l.length=6 + c:=(takes_len hb (Nat.zero_le _) (kinds_all _) ht).trans hkl
    rw [Take_some hb (by omega) (by omega) (kinds_all _) ht,Option.bind_some]
    obtain ⟨i0,i1,i2,i3,i4,i5,r,rfl⟩ : ∃ a b c d e f r,l=a :: b :: c :: d :: e :: f :: r:=by
      match l,hll with
      | a :: b :: c :: d :: e :: f :: r,_=>exact ⟨a,b,c,d,e,f,r,rfl⟩
      | [],h=>exfalso; simp only [List.length_cons,List.length_nil] at h; omega
      | [_],h=>exfalso; simp only [List.length_cons,List.length_nil] at h; omega
      | [_,_],h=>exfalso; simp only [List.length_cons,List.length_nil] at h; omega
      | [_,_,_],h=>exfalso; simp only [List.length_cons,List.length_nil] at h; omega
      | [_,_,_,_],h=>exfalso; simp only [List.length_cons,List.length_nil] at h; omega
      | [_,_,_,_,_],h=>exfalso; simp only [List.length_cons,List.length_nil] at h; omega
    have hrl : r.length=c:=by simp only [List.length_cons] at hll; omega
    have hz : ∀ a ∈ i0 :: i1 :: i2 :: i3 :: i4 :: i5 :: r,a.s.size≤1000:=by
      intro a ha
      have hk : a.k ∈ hKs++List.replicate c 5:=by rw [← t3]; exact List.mem_map.2 ⟨a,ha,rfl⟩
      have h:=t4 a ha
      have : (a.k=1∨a.k=2∨a.k=3)∨a.k=5:=by
        rcases List.mem_append.1 hk with hk|hk
        · simp only [hKs,List.mem_cons,List.not_mem_nil,or_false] at hk; omega
        · rw [List.mem_replicate] at hk; exact .inr hk.2
      rcases this with h1|h1
      · have e : a.s=⟨#[]⟩:=congrArg It.s (form123 h h1).1
        rw [e]; decide
      · have:=(form5 h h1).2; omega
    have hj:=ref_j3 (k:=m) (b:=sealL x) i0 i1 i2 i3 i4 i5 r rfl hz (by omega)
    rw [hrl] at hj;refine hj.trans ?_
    have hsm : Small (r.map (fun a=>bytesOf a.s)):=by
      refine ⟨by rw [List.length_map]; omega,fun s hs=>?_⟩
      obtain ⟨a,ha,rfl⟩:=List.mem_map.1 hs
      have:=hz a (by simp [ha])
      rw [bytesOf_length]; omega
    refine (refC_ev (sealL_bytes hb) hsm (by omega)).2 (fun h=>hN ⟨_,_,h.1,?_,?_⟩)
    · intro s hs
      obtain ⟨a,ha,rfl⟩:=List.mem_map.1 hs;exact bytesOf_bytes a.s
    · have:=congrArg (List.drop 4) h.2
      rw [sealL_drop,sealL_drop] at this;exact this
theorem ref_l0 {b : List Int} (hl : b.length=512) (k : Nat) : ∀ (d i : Nat) (e : Bool),i + d=512→humusref08_Decode.l0 (k + d + 1) b e (i : Int)=humusref08_Decode.l0 (k + 1) b (e && !((b.drop i).any fun x=>x != 0)) ((512 : Nat) : Int):=by
  intro d
  induction d with
  | zero =>
    intro i e hi
    have h5 : i=512:=by omega
    have hz : b.drop i=[]:=List.drop_eq_nil_of_le (by omega)
    rw [hz,List.any_nil,Bool.not_false,Bool.and_true,Nat.add_zero,h5]
  | succ d ih =>
    intro i e hi
    have hlt : i<b.length:=by omega
    have hr : b[i]=rd b (i : Int):=Option.some.inj ((List.getElem?_eq_getElem hlt).symm.trans (rdB_at hlt))
    rw [show k + (d + 1) + 1=(k + d + 1) + 1 by omega,humusref08_Decode.l0_s,if_pos (by omega),List.drop_eq_getElem_cons hlt,List.any_cons,hr,wsucc (by omega)]
    cases e with
    | true =>
      rw [if_pos rfl,if_pos (by omega),if_pos (by omega),ih (i + 1) _ (by omega),Bool.not_or,Bool.true_and]
      congr 2
      unfold bne
      rw [Bool.not_not]
    | false=>rw [if_neg (by decide),ih (i + 1) _ (by omega),Bool.false_and,Bool.false_and]
theorem ref_end {k : Nat} {b : List Int} (hb : Bytes b) (hl : b.length=512) (hk : 9000≤k) (e : Bool) : humusref08_Decode.l0 (k + 1) b e ((512 : Nat) : Int)=if e=true then some ([0,0,0,0],[],0) else if fourL (sumL (b.drop 4))=b.take 4 then humusref08_Decode.j1 k b (b.drop 4) hKs 0 else some ([],[],5):=by
  rw [humusref08_Decode.l0_s,if_neg (by omega)]
  cases e with
  | true=>rw [if_pos rfl,if_pos (by decide),if_pos rfl]; rfl
  | false =>
    rw [if_neg Bool.false_ne_true,if_neg Bool.false_ne_true,if_pos (by omega),rSum_ev (hb.drop 4) (by rw [List.length_drop]; omega) (by rw [List.length_drop]; omega),Option.bind_some,rFour_ev,Option.bind_some]
    have hq:=str_eq (fourL_bytes (sumL (b.drop 4))) (hb.take 4)
    by_cases he : fourL (sumL (b.drop 4))=b.take 4
    · rw [if_pos (by rw [he]),if_pos he]
    · rw [if_neg he,if_neg (by intro h; rw [h,beq_self_eq_true] at hq; exact he (od_ hq.symm))]
theorem both_dec {k : Nat} {b : List Int} (hb : Bytes b) (hl : b.length≤2000) (hk : 30000≤k) : ∃ I S e,leaf_Decode.f k b=some (I,S,e)∧humusref08_Decode.f k b=some (I,S,e)∧I.length≤4∧S.length≤64:=by
  unfold leaf_Decode.f humusref08_Decode.f
  rw [if_pos (by decide),Option.bind_some]
  by_cases h5 : b.length=512
  rotate_left
  · rw [if_neg (by omega),if_neg (by omega)]
    exact ⟨[],[],1,rfl,rfl,by decide,by decide⟩
  rw [if_pos (by omega),if_pos (by omega),nought_ev (by omega),Option.bind_some]
  obtain ⟨m,rfl⟩ : ∃ m,k=m + 512 + 1:=⟨k - 513,by omega⟩
  have h0:=ref_l0 h5 m 512 0 true rfl
  rw [List.drop_zero,Bool.true_and,ref_end hb h5 (by omega)] at h0
  rw [show (0 : Int)=((0 : Nat) : Int) from rfl,h0]
  cases hany : b.any fun e=>e != 0 with
  | false =>
    rw [Bool.not_false,if_pos rfl,if_pos rfl]
    exact ⟨[0,0,0,0],[],0,rfl,rfl,by decide,by decide⟩
  | true =>
    rw [Bool.not_true,if_neg (by decide),if_neg (by decide),tOpen_ev hb (by omega) (by omega) (by omega),Option.bind_some]
    by_cases he : fourL (sumL (b.drop 4))=b.take 4
    rotate_left
    · rw [if_neg he,if_neg he]
      refine ⟨[],[],5,?_,rfl,by decide,by decide⟩
      show leaf_Decode.j0 (m + 512 + 1) [] 5 true _=_
      rw [leaf_Decode.j0,if_pos rfl]
    rw [if_pos he,if_pos he];have hx:=hb.drop 4
    have hxl : (b.drop 4).length=508:=by rw [List.length_drop]; omega
    have hbs : b=sealL (b.drop 4):=by unfold sealL; rw [he,List.take_append_drop]
    show ∃ I S e,leaf_Decode.j0 (m + 512 + 1) (b.drop 4) 0 false [0,0,0,0]=some (I,S,e)∧_
    by_cases hP : IsPage (b.drop 4)
    · obtain ⟨I,S,hM,hB,hp⟩:=hP
      obtain ⟨h4,hI,h64,_,_⟩:=MayL_parts hM
      refine ⟨I,S,0,?_,?_,by omega,h64⟩
      · rw [hp]; exact dec_page hM hB (by omega)
      · rw [hbs,sealL_drop,hp]; exact ref_page hM hB (by omega)
    · refine ⟨[],[],4,dec_none hx hxl (by omega) hP,?_,by decide,by decide⟩
      have h:=ref_none (k:=m) hx hxl (by omega) hP
      rw [← hbs] at h;exact h
end Go.Proofs.Ytjigckhopkclgaa.P
namespace Go.Proofs.Ytjigckhopkclgaa.Pure
open Go.RowKit Ytjigckhopkclgaa Ytjigckhopkclgaa.P Ytjigckhopkclgaa.Mem YtjigckhopkclgaaW.PrintWords YtjigckhopkclgaaW.PrintLast YtjigckhopkclgaaW.PrintMore
theorem LeafDecodes : humuslaw08_LeafDecodes.Pure:=by
  intro l _ _ hw;refine ⟨30000,?_⟩
  have hb : Bytes l:=fun x hx=>by
    have:=hw x hx
    simp only [Lit.wf,Bool.and_eq_true,decide_eq_true_eq] at this
    exact this
  have aw : humuslaw08_awake.f 30000=some true:=awake08_ev (by decide)
  unfold humuslaw08_LeafDecodes.f
  by_cases h2 : (l.length : Int) > 2000
  · rw [if_pos h2,aw,Option.bind_some]
  · obtain ⟨I,S,e,h3,h4,h5,h6⟩:=@both_dec 30000 l hb (by omega) (by decide)
    have sr : humusref08_Same.f 30000 I S I S=some true:=Same_refl (by omega) (by omega) (by decide)
    rw [if_neg h2,Option.bind_some,List.nil_append,if_pos (by simp only [List.length_nil]; omega),h3,Option.bind_some,h4,Option.bind_some]
    simp only
    rw [if_pos trivial,sr,Option.bind_some,if_pos rfl,aw,Option.bind_some];rfl
end Go.Proofs.Ytjigckhopkclgaa.Pure
