/- by wip/prune.py -/
import Derived.Test.YtbmcbhpkefjhbaaDoorMTableCodes8
import Derived.Laws.Entries
import Ieee.Arith
namespace Go.Proofs.YtbmcbhpkefjhbaaDoor.Flt
open Ieee
def V (r : Nat) : Nat:=if r / 2 ^ 52=0 then r else (2 ^ 52 + r % 2 ^ 52) * 2 ^ (r / 2 ^ 52 - 1)
theorem V_hi (r : Nat) : V r<2 ^ 52 * 2 ^ (r / 2 ^ 52):=by
  unfold V
  split
  · rename_i h; rw [h]; have:=Nat.div_add_mod r (2 ^ 52); have:=Nat.mod_lt r (show 0<2 ^ 52 by decide); omega
  · rename_i h
    obtain ⟨k,hk⟩ : ∃ k,r / 2 ^ 52=k + 1:=⟨r / 2 ^ 52 - 1,by omega⟩
    rw [hk,Nat.add_sub_cancel,Nat.pow_succ 2 k]
    have hm:=Nat.mod_lt r (show 0<2 ^ 52 by decide)
    have hp : 0<2 ^ k:=Nat.two_pow_pos k
    generalize 2 ^ k=q at *
    generalize r % 2 ^ 52=m at *
    have : (2 ^ 52 + m) * q<(2 ^ 52 + 2 ^ 52) * q:=Nat.mul_lt_mul_of_pos_right (by omega) hp
    calc (2 ^ 52 + m) * q<(2 ^ 52 + 2 ^ 52) * q:=this
      _=2 ^ 52 * (q * 2):=by omega
theorem V_lo (r : Nat) (h : r / 2 ^ 52≠0) : 2 ^ 52 * 2 ^ (r / 2 ^ 52 - 1)≤V r:=by
  unfold V
  rw [if_neg h]
  exact Nat.mul_le_mul_right _ (by omega)
theorem V_mono {r t : Nat} (h : r<t) : V r<V t:=by
  have hd : r / 2 ^ 52≤t / 2 ^ 52:=Nat.div_le_div_right (Nat.le_of_lt h)
  by_cases e : r / 2 ^ 52=t / 2 ^ 52
  · unfold V
    rw [e];have h1:=Nat.div_add_mod r (2 ^ 52);have h2:=Nat.div_add_mod t (2 ^ 52)
    by_cases z : t / 2 ^ 52=0
    · rw [if_pos z,if_pos z]; exact h
    · rw [if_neg z,if_neg z]
      refine Nat.mul_lt_mul_of_pos_right ?_ (Nat.two_pow_pos _);rw [e] at h1;omega
  · have hlt : r / 2 ^ 52<t / 2 ^ 52:=by omega
    have h1:=V_hi r
    have h2:=V_lo t (by omega)
    have : 2 ^ (r / 2 ^ 52)≤2 ^ (t / 2 ^ 52 - 1):=Nat.pow_le_pow_right (by decide) (by omega)
    have:=Nat.mul_le_mul_left (2 ^ 52) this;omega
theorem V_lt_iff (r t : Nat) : V r<V t ↔ r<t:=by
  constructor
  · intro h
    rcases Nat.lt_trichotomy r t with h'|h'|h'
    · exact h'
    · subst h'; omega
    · have:=V_mono h'; omega
  · exact V_mono
theorem V_zero : V 0=0:=by decide
abbrev INF : Nat:=9218868437227405312     -- 2047 * 2^52
abbrev HI : Nat:=9223372036854775808      -- 2^63
theorem infRung_eq : double.infRung=INF:=by decide
theorem sw_eq : double.signWeight=HI:=by decide
theorem binade_eq : double.binade=2 ^ 52:=by decide
theorem least_eq : double.leastPlace = -1074:=by decide
def sg (w : Nat) : Bool:=w / HI % 2 == 1
def rg (w : Nat) : Nat:=w % HI
def isNaN (w : Nat) : Bool:=INF<rg w
theorem read_eq (w : Nat) : double.read w =
    if rg w<2 ^ 52 then .number (sg w) (rg w) (-1074)
    else if rg w<INF then .number (sg w) (2 ^ 52 + rg w % 2 ^ 52) (-1074 + ((rg w / 2 ^ 52 - 1 : Nat) : Int))
    else if rg w=INF then .infinity (sg w)
    else .nan (sg w) (rg w - INF):=by
  unfold Format.read
  rw [infRung_eq,sw_eq,binade_eq,least_eq];rfl
theorem read_fin (w : Nat) (h : rg w<INF) : ∃ m k,double.read w=.number (sg w) m (-1074 + (k : Nat))∧m * 2 ^ k=V (rg w):=by
  rw [read_eq]
  by_cases h1 : rg w<2 ^ 52
  · rw [if_pos h1]
    refine ⟨rg w,0,rfl,?_⟩
    unfold V
    rw [if_pos (Nat.div_eq_of_lt h1)]
    simp
  · rw [if_neg h1,if_pos h]
    refine ⟨_,rg w / 2 ^ 52 - 1,rfl,?_⟩
    unfold V
    rw [if_neg];intro e;have:=Nat.div_eq_zero_iff.1 e;omega
theorem read_inf (w : Nat) (h : rg w=INF) : double.read w=.infinity (sg w):=by
  have hI : INF=9218868437227405312:=rfl
  rw [read_eq,if_neg (by omega),if_neg (by omega),if_pos h]
theorem read_nan (w : Nat) (h : isNaN w=true) : ∃ t,double.read w=.nan (sg w) t:=by
  simp only [isNaN,decide_eq_true_eq] at h
  have hI : INF=9218868437227405312:=rfl
  rw [read_eq,if_neg (by omega),if_neg (by omega),if_neg (by omega)]
  exact ⟨_,rfl⟩
def sv (w : Nat) : Int:=if sg w then - (rg w : Int) else rg w
theorem signed_eq (s : Bool) (m k : Nat) : signed s m k=if s then -((m * 2 ^ k : Nat) : Int) else ((m * 2 ^ k : Nat) : Int):=by
  unfold signed
  rw [Nat.shiftLeft_eq]
def sV (s : Bool) (r : Nat) : Int:=if s then -(V r : Int) else (V r : Int)
theorem V_pos {r : Nat} (h : 0<r) : 0<V r:=by have:=V_mono h; rw [V_zero] at this; exact this
theorem sV_lt (a b : Bool) (r t : Nat) : sV a r<sV b t ↔ (if a then -(r : Int) else r)<(if b then -(t : Int) else t):=by
  have h1:=V_lt_iff r t;have h2:=V_lt_iff t r
  have z1 : r=0∨0<V r:=by rcases Nat.eq_zero_or_pos r with h|h; exact .inl h; exact .inr (V_pos h)
  have z2 : t=0∨0<V t:=by rcases Nat.eq_zero_or_pos t with h|h; exact .inl h; exact .inr (V_pos h)
  have y1 : V r=0∨0<r:=by rcases Nat.eq_zero_or_pos r with h|h; subst h; exact .inl V_zero; exact .inr h
  have y2 : V t=0∨0<t:=by rcases Nat.eq_zero_or_pos t with h|h; subst h; exact .inl V_zero; exact .inr h
  unfold sV
  cases a <;> cases b <;> simp only [Bool.false_eq_true,if_true,if_false] <;> omega
theorem sV_eq (a b : Bool) (r t : Nat) : sV a r=sV b t ↔ (if a then -(r : Int) else (r : Int))=(if b then -(t : Int) else t):=by
  have h1:=sV_lt a b r t;have h2:=sV_lt b a t r;omega
theorem compare_scale (x y : Int) (q : Nat) (h : 0<q) : compare (x * q) (y * q)=compare x y:=by
  have hq : (0 : Int)<q:=by omega
  simp only [compare,compareOfLessAndEq]
  have e1 : x * q<y * q ↔ x<y:=Int.mul_lt_mul_right hq
  have e2 : x * q=y * q ↔ x=y:=by
    constructor
    · intro h'; exact Int.eq_of_mul_eq_mul_right (by omega) h'
    · intro h'; rw [h']
  simp only [e1,e2]
theorem signed_scale (s : Bool) (m k j : Nat) : signed s m (k + j)=(if s then -((m * 2 ^ k : Nat) : Int) else ((m * 2 ^ k : Nat) : Int)) * (2 ^ j : Nat):=by
  rw [signed_eq,Nat.pow_add,← Nat.mul_assoc]
  cases s
  · simp
  · simp only [if_true]; rw [Int.natCast_mul,Int.neg_mul]
theorem compare_iff {a b c d : Int} (h1 : a<b ↔ c<d) (h2 : a=b ↔ c=d) : compare a b=compare c d:=by
  simp only [compare,compareOfLessAndEq,h1,h2]
theorem order_fin (x y : Nat) (hx : rg x<INF) (hy : rg y<INF) : double.order x y=some (compare (sv x) (sv y)):=by
  obtain ⟨m,k,ex,hk⟩:=read_fin x hx;obtain ⟨n,l,ey,hl⟩:=read_fin y hy
  unfold Format.order
  rw [ex,ey]
  simp only [Datum.order]
  congr 1
  have hb : min (-1074 + (k : Int)) (-1074 + (l : Int)) = -1074 + ((min k l : Nat) : Int):=by omega
  rw [hb]
  rw [show (-1074 + (k : Int) - (-1074 + ((min k l : Nat) : Int))).toNat=k - min k l by omega,show (-1074 + (l : Int) - (-1074 + ((min k l : Nat) : Int))).toNat=l - min k l by omega]
  have q : 0<2 ^ (min k l):=Nat.two_pow_pos _;rw [← compare_scale _ _ _ q]
  have e1 : signed (sg x) m (k - min k l) * ((2 ^ min k l : Nat) : Int)=sV (sg x) (rg x):=by
    have:=signed_scale (sg x) m (k - min k l) (min k l);rw [← signed_eq] at this;rw [← this,Nat.sub_add_cancel (Nat.min_le_left _ _),signed_eq,hk]; rfl
  have e2 : signed (sg y) n (l - min k l) * ((2 ^ min k l : Nat) : Int)=sV (sg y) (rg y):=by
    have:=signed_scale (sg y) n (l - min k l) (min k l);rw [← signed_eq] at this;rw [← this,Nat.sub_add_cancel (Nat.min_le_right _ _),signed_eq,hl]; rfl
  rw [e1,e2];exact compare_iff (sV_lt _ _ _ _) (sV_eq _ _ _ _)
theorem compare_lt' {a b : Int} (h : a<b) : compare a b=.lt:=by
  simp [compare,compareOfLessAndEq,h]
theorem compare_gt' {a b : Int} (h : b<a) : compare a b=.gt:=by
  simp only [compare,compareOfLessAndEq]
  rw [if_neg (by omega),if_neg (by omega)]
theorem order_eq (x y : Nat) (hx : isNaN x=false) (hy : isNaN y=false) : double.order x y=some (compare (sv x) (sv y)):=by
  simp only [isNaN,decide_eq_false_iff_not,Nat.not_lt] at hx hy
  have hI : INF=9218868437227405312:=rfl
  by_cases ix : rg x=INF
  · by_cases iy : rg y=INF
    · unfold Format.order
      rw [read_inf x ix,read_inf y iy]
      simp only [Datum.order,sv,ix,iy]
      cases sg x <;> cases sg y <;> simp <;> decide
    · obtain ⟨n,l,ey,hl⟩:=read_fin y (by omega)
      unfold Format.order
      rw [read_inf x ix,ey]
      simp only [Datum.order,sv,ix]
      congr 1
      cases sg x
      · simp only [Bool.false_eq_true,if_false]; exact (compare_gt' (by split <;> omega)).symm
      · simp only [if_true]; exact (compare_lt' (by split <;> omega)).symm
  · by_cases iy : rg y=INF
    · obtain ⟨m,k,ex,hk⟩:=read_fin x (by omega)
      unfold Format.order
      rw [read_inf y iy,ex]
      simp only [Datum.order,sv,iy]
      congr 1
      cases sg y
      · simp only [Bool.false_eq_true,if_false]; exact (compare_lt' (by split <;> omega)).symm
      · simp only [if_true]; exact (compare_gt' (by split <;> omega)).symm
    · exact order_fin x y (by omega) (by omega)
theorem order_nan_l (x y : Nat) (h : isNaN x=true) : double.order x y=none:=by
  obtain ⟨t,e⟩:=read_nan x h
  unfold Format.order; rw [e]; rfl
theorem order_nan_r (x y : Nat) (h : isNaN y=true) : double.order x y=none:=by
  obtain ⟨t,e⟩:=read_nan y h
  unfold Format.order; rw [e]; cases double.read x <;> rfl
theorem eql_eq (x y : Nat) : (double.order x y == some .eq)=(!isNaN x && !isNaN y && decide (sv x=sv y)):=by
  cases hx : isNaN x
  · cases hy : isNaN y
    · rw [order_eq x y hx hy]
      simp only [compare,compareOfLessAndEq]
      by_cases h : sv x<sv y
      · have : sv x≠sv y:=by omega
        simp [h,this]
      · simp only [h]; by_cases h' : sv x=sv y <;> simp [h']
    · rw [order_nan_r x y hy]; simp
  · rw [order_nan_l x y hx]; simp
theorem sum_comm (a b : Datum) : a.sum b=b.sum a:=by
  cases a <;> cases b <;> try rfl
  · rename_i s m i t n j
    simp only [Datum.sum]
    rw [Int.min_comm i j,Int.add_comm,Bool.and_comm s t]
  · rename_i s t
    simp only [Datum.sum]
    cases s <;> cases t <;> rfl
theorem add_comm (x y : Nat) : double.add x y=double.add y x:=by
  unfold Format.add; rw [sum_comm]
def NAN : Nat:=9221120237041090561
def val (x : Nat) : Nat:=if isNaN x=true then NAN else x
def key (x : Nat) : Nat:=if rg x=0 then 0 else val x
theorem wrap_u64 (n : Int) : IntKind.u64.wrap n=n % 18446744073709551616:=by simp [IntKind.wrap,IntKind.bits,IntKind.signed]
theorem wrapN (v : BitVec 64) : IntKind.u64.wrap (v.toNat : Int)=(v.toNat : Int):=by
  have h:=v.isLt;rw [wrap_u64]; omega
theorem ofV (a : BitVec 64) : BitVec.ofInt IntKind.u64.bits (a.toNat : Int)=a:=by rw [BitVec.ofInt_natCast]; exact BitVec.ofNat_toNat 64 a
theorem and64 (a b : BitVec 64) : Go.bits .and .u64 (a.toNat : Int) (b.toNat : Int)=((a &&& b).toNat : Int):=by
  unfold Go.bits; rw [ofV,ofV]; exact wrapN _
theorem asV (n : Nat) (h : n<18446744073709551616) : n=(BitVec.ofNat 64 n).toNat:=by
  rw [BitVec.toNat_ofNat,Nat.mod_eq_of_lt (by omega)]
theorem nan_ref (b : Nat) : isNaN b=(decide ((b : Int) / 4503599627370496 % 2048=2047) && (IntKind.u64.wrap ((b : Int) * 4096) != 0)):=by
  rw [wrap_u64]
  unfold isNaN rg
  have hH : HI=9223372036854775808:=rfl;have hI : INF=9218868437227405312:=rfl;rw [hH,hI];rw [Bool.eq_iff_iff]
  simp only [decide_eq_true_eq,Bool.and_eq_true,bne_iff_ne,ne_eq]
  omega
theorem nan_NAN : isNaN NAN=true:=by decide
theorem val_val (x : Nat) : val (val x)=val x:=by
  unfold val
  by_cases h : isNaN x=true
  · rw [if_pos h,if_pos nan_NAN]
  · rw [if_neg h,if_neg h]
def ok (x : Nat) : Prop:=x<18446744073709551616
end Go.Proofs.YtbmcbhpkefjhbaaDoor.Flt
