/- by wip/prune.py -/
import Derived.Test.YtbmcbhpkefjhbaaDoorMTableCodes8
import Derived.BigQuiet
import Derived.Deep.LoopGhost
import Derived.Deep.QuietTactic
import Derived.Lib.Hide
import Derived.Outline
import Derived.WalkKit
import Derived.WalkLawsBesides
import Derived.Test.YtbmcbhpkefjhbaaDoorMTableCodes5
import Derived.Test.YtbmcbhpkefjhbaaDoorMTableCodes6
import Derived.Test.YtbmcbhpkefjhbaaDoorMTableCodes14
set_option linter.unusedSimpArgs false
set_option linter.unusedVariables false
namespace Go.Proofs.YtbmcbhpkefjhbaaDoor.Pac
open Go.RowKit YtbmcbhpkefjhbaaDoor YtbmcbhpkefjhbaaDoor.Mem YtbmcbhpkefjhbaaDoorW.PrintWords YtbmcbhpkefjhbaaDoorW.PrintLast YtbmcbhpkefjhbaaDoorW.PrintMore
structure It where
  k : Int
  n : Int
  x : Nat
  s : ByteArray
abbrev It.v (a : It) : Value:=.agg #[.int .i64 a.k,.int .i64 a.n,.float .f64 a.x,.string a.s]
def same (a b : It) : Bool:=a.k == b.k && a.n == b.n && (a.s.toList == b.s.toList) && ((a.x : Int) == (b.x : Int))
set_option maxRecDepth 100000 in
theorem pSame_any (a b : It) (w : World) : Calls Tryd.prog 68 #[a.v,b.v] w fun e w'=>e=.returned (.bool (same a b))∧Below w.heap.size w w':=by
  have HB:=Lib.hid (Below.refl w.heap.size w);go_enter Tryd.func68,Tryd.ntmps68;go_wp2
  all_goals go_ret
  all_goals exact ⟨ret_bool (by unfold same; simp [*]),(hb0_ HB.out)⟩
end Go.Proofs.YtbmcbhpkefjhbaaDoor.Pac
namespace Go.Proofs.YtbmcbhpkefjhbaaDoor.Pac
open Go.RowKit YtbmcbhpkefjhbaaDoor YtbmcbhpkefjhbaaDoor.Mem YtbmcbhpkefjhbaaDoorW.PrintWords YtbmcbhpkefjhbaaDoorW.PrintLast YtbmcbhpkefjhbaaDoorW.PrintMore
def bigs (u : Int) : Nat→List Int
  | 0=>[]
  | n + 1=>(u / 2 ^ (8 * n) % 256) :: bigs u n
theorem bigs_length (u : Int) (n : Nat) : (bigs u n).length=n:=by induction n with|zero=>rfl|succ n ih=>simp [bigs,ih]
set_option maxRecDepth 100000 in
theorem number_any (w w1 : World) (v : Value) (xs : List Int) (u : Int) (n : Nat) (hn : n≤8) (hx : xs.length≤1000000) (hR : Kd.R (Kd.int .u8) 5 w1 w.heap.size (fun _=>True) v xs) (hB : Below w.heap.size w w1) :
    Calls Tryd.prog 49 #[v,.int .u64 u,.int .i64 (n : Int)] w1 fun e w'=>∃ v',e=.returned v'∧Kd.R (Kd.int .u8) 5 w' w.heap.size (fun _=>True) v' (xs++bigs u n)∧Below w.heap.size w w':=by
  have HB:=Lib.hid hB;have HO:=Lib.hid hR;clear hB hR;have n0 : (0 : Int)≤(n : Int):=Int.natCast_nonneg _
  have n1 : (n : Int)≤8:=by omega
  go_enter Tryd.func49,Tryd.ntmps49;go_wp2
  go_loopg [0,7] n (fun k v0 v7 wr=>∃ (j : Nat) (pre : List Int),j≤n∧j=k∧v7=.int .i64 ((j : Int) - 1)∧Hid (pre++bigs u j=bigs u n)∧Hid (Kd.R (Kd.int .u8) 5 wr w.heap.size (fun _=>True) v0 (xs++pre))∧Hid (Below w.heap.size w wr))
  case atStart=>exact ⟨n,[],by omega,rfl,rfl,Lib.hid rfl,Lib.hid (by rw [List.append_nil]; exact HO.out),HB⟩
  case round =>
    clear HB HO;obtain ⟨j,pre,hj,rfl,rfl,HP,HO,HB⟩:=hrel;have j0 : (0 : Int)≤(j : Int):=Int.natCast_nonneg _
    have j1 : (j : Int)≤8:=by omega
    cases j with
    | zero =>
      go_wp2;go_ret;refine ⟨_,rfl,?_,HB.out⟩;have h:=HP.out
      rw [show bigs u 0=[] from rfl,List.append_nil] at h
      rw [← h];exact HO.out
    | succ i =>
      have d1 : decide ((0 : Int)≤((i + 1 : Nat) : Int) - 1)=true:=dt_ (by omega)
      have HPL : Hid ((xs++pre).length + 1≤2000000):=Lib.hid (by
        have h:=congrArg List.length HP.out;rw [List.length_append,bigs_length,bigs_length] at h
        rw [List.length_append]; omega)
      go_wp2_with (first|((with_reducible refine gate_builtin (b:=.append) (xs:=#[.tmp 14,.tmp 20]) rfl ?_); at_builtin; refine Kd.R_append (Kd.int .u8) (w0:=w) w.heap.size rfl (.tmp 14) (.tmp 20) 22 5 (.int .u8 0) 1 rfl Tryd.underlying22 info8 rfl (by decide) (by omega) _ (xs++pre) (u / 2 ^ (8 * i) % 256) [.int .u8 (u / 2 ^ (8 * i) % 256)] (fun _=>True) (fun _=>False) rfl rfl rfl (fun _ h=>h.elim) (fun _ _=>trivial) HO.out (hb0_ HB.out) (bz_ (hb0_ HB.out)) ?aL ?_; (case aL=>have:=HPL.out; omega); intro v21 w21 ho hb hg hat; clear hg hat; have HO21:=Lib.hid ho; have HB:=Lib.hid hb; clear ho hb))
      go_roundg i
      case measure=>omega
      case rel =>
        refine ⟨i,pre++[u / 2 ^ (8 * i) % 256],by omega,rfl,by go_num,Lib.hid ?_,Lib.hid ?_,HB⟩
        · rw [List.append_assoc]; exact HP.out
        · rw [← List.append_assoc]; exact HO21.out
end Go.Proofs.YtbmcbhpkefjhbaaDoor.Pac
namespace Go.Proofs.YtbmcbhpkefjhbaaDoor.Pac
open Go.RowKit YtbmcbhpkefjhbaaDoor YtbmcbhpkefjhbaaDoor.Mem YtbmcbhpkefjhbaaDoorW.PrintWords YtbmcbhpkefjhbaaDoorW.PrintLast YtbmcbhpkefjhbaaDoorW.PrintMore
abbrev tx : It:=⟨5,0,0,⟨#[97]⟩⟩
def Check4.T : Bool × List (List Nat × List Nat):=(true,[([],[]),([0],[0]),([1],[1]),([2],[2]),([3],[3]),([4,3],[3,4]),([3],[3]),([6,3],[3,6]),([7,3],[3,7]),([8,3],[3,8]),([9,3],[3,9]),([5,10,3],[3,5,10]),([3,11],[3,11]),([12,3],[12]),([13],[13]),([13],[13]),([15,13],[13,15]),([13],[13]),([17,13],[13,17]),([16,18,13],[13,16,18]),([14,19,13,13],[13,14,19]),([13,20],[13,20]),([21,20,0,1,2,3,4,5,6,7,8,9,10,11,12,13,14,15,16,17,18,19,20,21],[21])])
def Check4.B : List Nat:=[0,1,3,7,15,31,15,79,207,463,975,2047,4095,8191,16383,16383,49151,16383,147455,507903,1048575,2097151,4194303]
theorem Check4.tab : rtab .any (opsOf Tryd.f48 4)=Check4.T:=by kernel_rfl
theorem Check4.bits : waitsOk Check4.T.2 Check4.B=true:=by kernel_rfl
end Go.Proofs.YtbmcbhpkefjhbaaDoor.Pac
namespace Go.Proofs.YtbmcbhpkefjhbaaDoor.Pac
open Go.RowKit YtbmcbhpkefjhbaaDoor YtbmcbhpkefjhbaaDoor.Mem YtbmcbhpkefjhbaaDoorW.PrintWords YtbmcbhpkefjhbaaDoorW.PrintLast YtbmcbhpkefjhbaaDoorW.PrintMore
abbrev It.o (a : It) : Obj:=.cells #[.int .i64 a.k,.int .i64 a.n,.float .f64 a.x,.string a.s] 51
def HasIt (w : World) (g : Nat) (a : It) : Prop:=w.cell? ⟨g,0,none⟩=some (.int .i64 a.k)∧w.cell? ⟨g,1,none⟩=some (.int .i64 a.n)∧w.cell? ⟨g,2,none⟩=some (.float .f64 a.x)∧w.cell? ⟨g,3,none⟩=some (.string a.s)
theorem HasIt.alloc (w : World) (a : It) : HasIt (w.alloc a.o) w.heap.size a:=⟨World.cell?_alloc_new _ _ _ _,World.cell?_alloc_new _ _ _ _,World.cell?_alloc_new _ _ _ _,World.cell?_alloc_new _ _ _ _⟩
theorem HasIt.below {w w' : World} {g : Nat} {a : It} (h : HasIt w g a) (hb : Below w.heap.size w w') : HasIt w' g a :=
  ⟨(hb.cell (wb_ w _ h.1)).trans h.1,(hb.cell (wb_ w _ h.2.1)).trans h.2.1,(hb.cell (wb_ w _ h.2.2.1)).trans h.2.2.1,(hb.cell (wb_ w _ h.2.2.2)).trans h.2.2.2⟩
theorem step_str {P : Program} {ops : Array Oper} {o : Oper} {a : Act} {Q : Exit→Act→World→Prop} {Kc : Act→World→Prop} {w0 W : World} (base : Nat) (hw : Region.wanted o (yielded ops a.tmps)=true) (s x : Operand) (t u e : TypeId)
    (ho : o.op=.call { callee:=.builtin .append,args:=#[s,x],argTypes:=#[t,u] })
    (ht : P.underlying t=some (.slice e)) (hu : P.underlying u=some .string) (hinfo : (P.info? e).map (fun i=>(i.zero,i.size,i.bytes))=some (some (.int .u8 0),1,1))
    (v : Value) (xs : List Int) (y : ByteArray) (hs : a.eval s=v) (hx : a.eval x=.string y)
    (HO : Kd.R (Kd.int .u8) e W base (fun _=>True) v xs) (HB : Below base w0 W) (hbase : base≤W.heap.size) (hl : xs.length + y.size≤140737488355328)
    (h : ∀ v1 w1,Kd.R (Kd.int .u8) e w1 base (fun _=>True) v1 (xs++bytesOf y)→Below base w0 w1→W.grownBy w1 v.ownBlock→Kc (a.put o.dst v1) w1) :
    if Region.wanted o (yielded ops a.tmps)=true then Oper.wp P o a W Kc Q else Kc (a.put o.dst undef) W:=by
  obtain ⟨i0,hi,hzz⟩:=Option.map_eq_some_iff.1 hinfo
  simp only [Prod.mk.injEq] at hzz
  obtain ⟨hz0,hz1,hz2⟩:=hzz;have HOw:=Kd.own_of_R HO;rw [if_pos hw]
  obtain ⟨v1,w1,hr,hown,hg,_⟩:=Lib.run_append_own_string (P:=P) (w:=W) base t u o.type e i0 ht hu hi hz0 hz1 hz2 v xs.length (nums .u8 xs) HOw y (by simp only [maxLen]; omega) hl hbase
  unfold Oper.wp execOp
  simp only [ho,resolve,invoke,builtin,Sem.run_bind,Sem.run_pure,Result.andThen_ok,List.map_toArray,List.map_cons,List.map_nil,hs,hx,hr]
  have hl2 : (xs++bytesOf y).length=xs.length + y.size:=by rw [List.length_append,bytesOf_length]
  have hc : nums .u8 (xs++bytesOf y)=nums .u8 xs++Lib.strCells y:=by
    rw [nums_append]
    congr 1
    simp [nums,bytesOf,Lib.strCells]
  refine h v1 w1 (Kd.R_of_own (enc:=Value.int .u8) (h1:=fun _=>rfl) ?_ (ok:=fun _=>True) (fun _ _=>trivial)) (HB.grown hg hbase (own_base HOw)) hg
  show w1.ownsRow base e 1 v1 (xs++bytesOf y).length (nums .u8 (xs++bytesOf y))
  rw [hl2,hc]; exact hown
theorem cell_heap {w w1 : World} {k i : Nat} (h : w1.heap[k]?=w.heap[k]?) : w1.cell? ⟨k,i,none⟩=w.cell? ⟨k,i,none⟩:=by
  simp only [World.cell?,h]
end Go.Proofs.YtbmcbhpkefjhbaaDoor.Pac
namespace Go.Proofs.YtbmcbhpkefjhbaaDoor.Pac
open Go.RowKit YtbmcbhpkefjhbaaDoor YtbmcbhpkefjhbaaDoor.Mem YtbmcbhpkefjhbaaDoorW.PrintWords YtbmcbhpkefjhbaaDoorW.PrintLast YtbmcbhpkefjhbaaDoorW.PrintMore
def wid (k : Int) : Int:=if k=1 then 1 else if k=2 then 2 else if k=3 then 4 else 0
theorem width_any (k : Int) (w : World) : Calls Tryd.prog 52 #[.int .i64 k] w fun e w'=>e=.returned (.int .i64 (wid k))∧w=w':=by
  by_cases h1 : k=1
  · subst h1
    go_enter Tryd.func52,Tryd.ntmps52;go_wp2;go_ret;exact ⟨rfl,rfl⟩
  by_cases h2 : k=2
  · subst h2
    go_enter Tryd.func52,Tryd.ntmps52;go_wp2;go_ret;exact ⟨rfl,rfl⟩
  by_cases h3 : k=3
  · subst h3
    go_enter Tryd.func52,Tryd.ntmps52;go_wp2;go_ret;exact ⟨rfl,rfl⟩
  have e : wid k=0:=by unfold wid; rw [if_neg h1,if_neg h2,if_neg h3]
  rw [e]
  have g1 : (k == 1)=false:=by rw [beq_eq_false_iff_ne]; exact h1
  have g2 : (k == 2)=false:=by rw [beq_eq_false_iff_ne]; exact h2
  have g3 : (k == 3)=false:=by rw [beq_eq_false_iff_ne]; exact h3
  go_enter Tryd.func52,Tryd.ntmps52;go_wp2;go_ret;exact ⟨rfl,rfl⟩
def CheckA.T : Bool × List (List Nat × List Nat):=(true,[([],[]),([0],[0]),([1],[1]),([2],[2]),([3],[3]),([4,3],[3,4]),([3],[3]),([6,3],[3,6]),([7,3],[3,7]),([8,3],[3,8]),([9,3],[3,9]),([5,10,3],[3,5,10]),([3,11],[3,11]),([12,3],[12]),([13],[13]),([13],[13]),([15,13],[13,15]),([13],[13]),([17,13],[13,17]),([16,18,13],[13,16,18]),([14,19,13,13],[13,14,19]),([13,20],[13,20]),([21,20,0,1,2,3,4,5,6,7,8,9,10,11,12,13,14,15,16,17,18,19,20,21],[21])])
def CheckA.B : List Nat:=[0,1,3,7,15,31,15,79,207,463,975,2047,4095,8191,16383,16383,49151,16383,147455,507903,1048575,2097151,4194303]
theorem CheckA.tab : rtab .any (opsOf Tryd.f48 4)=CheckA.T:=by kernel_rfl
theorem CheckA.bits : waitsOk CheckA.T.2 CheckA.B=true:=by kernel_rfl
def CheckB.T : Bool × List (List Nat × List Nat):=(true,[([],[]),([0],[0]),([1],[1]),([2],[2]),([3],[3]),([4,3],[3,4]),([3],[3]),([6,3],[3,6]),([7,3],[3,7]),([8,3],[3,8]),([9,3],[3,9]),([5,10,3],[3,5,10]),([3,11],[3,11]),([12,3],[12]),([13],[13]),([13],[13]),([15,13],[13,15]),([13],[13]),([17,13],[13,17]),([16,18,13],[13,16,18]),([14,19,13,13],[13,14,19]),([13,20],[13,20]),([21,20,0,1,2,3,4,5,6,7,8,9,10,11,12,13,14,15,16,17,18,19,20,21],[21])])
def CheckB.B : List Nat:=[0,1,3,7,15,31,15,79,207,463,975,2047,4095,8191,16383,16383,49151,16383,147455,507903,1048575,2097151,4194303]
theorem CheckB.tab : rtab .any (opsOf Tryd.f48 4)=CheckB.T:=by kernel_rfl
theorem CheckB.bits : waitsOk CheckB.T.2 CheckB.B=true:=by kernel_rfl
def CheckC.T : Bool × List (List Nat × List Nat):=(true,[([],[]),([0],[0]),([1],[1]),([2],[2]),([3],[3]),([4,3],[3,4]),([3],[3]),([6,3],[3,6]),([7,3],[3,7]),([8,3],[3,8]),([9,3],[3,9]),([5,10,3],[3,5,10]),([3,11],[3,11]),([12,3],[12]),([13],[13]),([13],[13]),([15,13],[13,15]),([13],[13]),([17,13],[13,17]),([16,18,13],[13,16,18]),([14,19,13,13],[13,14,19]),([13,20],[13,20]),([21,20,0,1,2,3,4,5,6,7,8,9,10,11,12,13,14,15,16,17,18,19,20,21],[21])])
def CheckC.B : List Nat:=[0,1,3,7,15,31,15,79,207,463,975,2047,4095,8191,16383,16383,49151,16383,147455,507903,1048575,2097151,4194303]
theorem CheckC.tab : rtab .any (opsOf Tryd.f48 4)=CheckC.T:=by kernel_rfl
theorem CheckC.bits : waitsOk CheckC.T.2 CheckC.B=true:=by kernel_rfl
variable (lim0 : Int)
set_option maxRecDepth 100000 in
theorem CheckA (a : It) (n s p lim : Int) (w : World) (hwd : wid a.k=n) (hn : decide (0<n)=true) (f1 : wrap64 (8 * n)=s) (f2 : ∀ w',Sem.run Tryd.prog (Op.shift BinOp.shl IntKind.i64 1 IntKind.i64 s) w'=.ok (.int .i64 p) w')
    (f3 : wrap64 (p - 1)=lim0) (f4 : (if lim0<2147483647 then lim0 else 2147483647)=lim) (h0 : decide (0≤a.n)=false) : Calls Tryd.prog 48 #[a.v] w fun e w'=>e=.returned (.int .i64 1)∧Below w.heap.size w w':=by
  have HB:=Lib.hid (Below.refl w.heap.size w)
  have WD:=fun w=>Lib.hid (width_any a.k w)
  rw [hwd] at WD;clear hwd;go_enter Tryd.func48,Tryd.ntmps48;go_wp2_with (first|(go_at_call 52; refine ((WD _).out).mono ?_; rintro e w' ⟨rfl,rfl⟩));have HBw:=Lib.hid (ba_ HB.out a.o);have HA:=Lib.hid (HasIt.alloc w a)
  obtain ⟨wo,hwo⟩ : ∃ wo,wo=w.alloc a.o:=⟨_,rfl⟩
  rw [← hwo] at HBw HA ⊢
  generalize w.heap.size=b at HA ⊢
  clear hwo;have HBo:=Lib.hid (be_ (Below.refl wo.heap.size wo))
  have HS : Hid (∀ wx,Below wo.heap.size wo wx→HasIt wx b a):=Lib.hid (fun wx h=>HA.out.below h)
  clear HA
  refine start_ (n:=23) (S:=fun wx=>HasIt wx b a) (ds:=[]) #[false,false,false,false,false,false,false,false,false,false,false,false,false,false,false,false,false,false,false,false,false,false,false] (by kernel_rfl) rfl rfl (HS.out _ HBo.out) (fun hHeld=>?_)
  refine with_tabW CheckA.tab CheckA.bits (fun HT_ HW_=>?_)
  generalize wo.drew=wD at HBo hHeld ⊢
  refine pu_ (i:=0) (N:=(some 11)) (v:=?_) (a':=?_) #[true,false,false,false,false,false,false,false,false,false,false,false,false,false,false,false,false,false,false,false,false,false,false] rfl rfl HT_.out (by kernel_rfl) (fun _ _ _ h=>h) (by rfl) ?_ ?_ ?_;rotate_left;(intro w';go_simp;with_reducible rfl);rotate_left;(simp only [Act.put,u1_,u2_,u3_,i64_w,i32_w];rfl)
  refine ta_ (i:=1) (N:=(some 12)) (v:=?_) (a':=?_) #[true,true,false,false,false,false,false,false,false,false,false,false,false,false,false,false,false,false,false,false,false,false,false] rfl rfl HT_.out HW_.out (by kernel_rfl) (fun _ _ _ h=>h) (by rfl) ?_ hHeld ?_ ?_;rotate_left;(rintro w' ⟨s0,s1,s2,s3⟩;go_simp;with_reducible rfl);rotate_left;(simp only [Act.put,u1_,u2_,u3_,i64_w,i32_w];rfl)
  refine pu_ (i:=2) (N:=(some 13)) (v:=?_) (a':=?_) #[true,true,true,false,false,false,false,false,false,false,false,false,false,false,false,false,false,false,false,false,false,false,false] rfl rfl HT_.out (by kernel_rfl) (fun _ _ _ h=>h) (by rfl) ?_ ?_ ?_;rotate_left;(intro w';go_simp;with_reducible rfl);rotate_left;(simp only [Act.put,u1_,u2_,u3_,i64_w,i32_w];rfl)
  refine pu_ (i:=3) (N:=(some 14)) (v:=?_) (a':=?_) #[true,true,true,true,false,false,false,false,false,false,false,false,false,false,false,false,false,false,false,false,false,false,false] rfl rfl HT_.out (by kernel_rfl) (fun _ _ _ h=>h) (by rfl) ?_ ?_ ?_;rotate_left;(intro w';go_simp;with_reducible rfl);rotate_left;(simp only [Act.put,u1_,u2_,u3_,i64_w,i32_w];rfl)
  refine pv_ (i:=4) (N:=(some 15)) (a':=?_) #[true,true,true,true,true,false,false,false,false,false,false,false,false,false,false,false,false,false,false,false,false,false,false] rfl rfl HT_.out (by kernel_rfl) (fun _ _ _ h=>h) (by rfl) ?_ ?_;rotate_left;(simp only [Act.put,u1_,u2_,u3_,i64_w,i32_w];rfl)
  refine pv_ (i:=5) (N:=(some 16)) (a':=?_) #[true,true,true,true,true,true,false,false,false,false,false,false,false,false,false,false,false,false,false,false,false,false,false] rfl rfl HT_.out (by kernel_rfl) (fun _ _ _ h=>h) (by rfl) ?_ ?_;rotate_left;(simp only [Act.put,u1_,u2_,u3_,i64_w,i32_w];rfl)
  refine pv_ (i:=6) (N:=(some 17)) (a':=?_) #[true,true,true,true,true,true,true,false,false,false,false,false,false,false,false,false,false,false,false,false,false,false,false] rfl rfl HT_.out (by kernel_rfl) (fun _ _ _ h=>h) (by rfl) ?_ ?_;rotate_left;(simp only [Act.put,u1_,u2_,u3_,i64_w,i32_w];rfl)
  refine pv_ (i:=7) (N:=(some 18)) (a':=?_) #[true,true,true,true,true,true,true,true,false,false,false,false,false,false,false,false,false,false,false,false,false,false,false] rfl rfl HT_.out (by kernel_rfl) (fun _ _ _ h=>h) (by rfl) ?_ ?_;rotate_left;(simp only [Act.put,u1_,u2_,u3_,i64_w,i32_w];rfl)
  refine pv_ (i:=8) (N:=(some 19)) (a':=?_) #[true,true,true,true,true,true,true,true,true,false,false,false,false,false,false,false,false,false,false,false,false,false,false] rfl rfl HT_.out (by kernel_rfl) (fun _ _ _ h=>h) (by rfl) ?_ ?_;rotate_left;(simp only [Act.put,u1_,u2_,u3_,i64_w,i32_w];rfl)
  refine pv_ (i:=9) (N:=(some 20)) (a':=?_) #[true,true,true,true,true,true,true,true,true,true,false,false,false,false,false,false,false,false,false,false,false,false,false] rfl rfl HT_.out (by kernel_rfl) (fun _ _ _ h=>h) (by rfl) ?_ ?_;rotate_left;(simp only [Act.put,u1_,u2_,u3_,i64_w,i32_w];rfl)
  refine pv_ (i:=10) (N:=(some 21)) (a':=?_) #[true,true,true,true,true,true,true,true,true,true,true,false,false,false,false,false,false,false,false,false,false,false,false] rfl rfl HT_.out (by kernel_rfl) (fun _ _ _ h=>h) (by rfl) ?_ ?_;rotate_left;(simp only [Act.put,u1_,u2_,u3_,i64_w,i32_w];rfl)
  refine pv_ (i:=11) (N:=(some 22)) (a':=?_) #[true,true,true,true,true,true,true,true,true,true,true,true,false,false,false,false,false,false,false,false,false,false,false] rfl rfl HT_.out (by kernel_rfl) (fun _ _ _ h=>h) (by rfl) ?_ ?_;rotate_left;(simp only [Act.put,u1_,u2_,u3_,i64_w,i32_w];rfl)
  refine pu_ (i:=12) (N:=(some 23)) (v:=?_) (a':=?_) #[true,true,true,true,true,true,true,true,true,true,true,true,true,false,false,false,false,false,false,false,false,false,false] rfl rfl HT_.out (by kernel_rfl) (fun _ _ _ h=>h) (by rfl) ?_ ?_ ?_;rotate_left;(intro w';go_simp;with_reducible rfl);rotate_left;(simp only [Act.put,u1_,u2_,u3_,i64_w,i32_w];rfl)
  refine pu_ (i:=13) (N:=(some 24)) (v:=?_) (a':=?_) #[true,true,true,true,true,true,true,true,true,true,true,true,true,true,false,false,false,false,false,false,false,false,false] rfl rfl HT_.out (by kernel_rfl) (fun _ _ _ h=>h) (by rfl) ?_ ?_ ?_;rotate_left;(intro w';go_simp;with_reducible rfl);rotate_left;(simp only [Act.put,u1_,u2_,u3_,i64_w,i32_w];rfl)
  refine pv_ (i:=14) (N:=(some 25)) (a':=?_) #[true,true,true,true,true,true,true,true,true,true,true,true,true,true,true,false,false,false,false,false,false,false,false] rfl rfl HT_.out (by kernel_rfl) (fun _ _ _ h=>h) (by rfl) ?_ ?_;rotate_left;(simp only [Act.put,u1_,u2_,u3_,i64_w,i32_w];rfl)
  refine pv_ (i:=15) (N:=(some 26)) (a':=?_) #[true,true,true,true,true,true,true,true,true,true,true,true,true,true,true,true,false,false,false,false,false,false,false] rfl rfl HT_.out (by kernel_rfl) (fun _ _ _ h=>h) (by rfl) ?_ ?_;rotate_left;(simp only [Act.put,u1_,u2_,u3_,i64_w,i32_w];rfl)
  refine pv_ (i:=16) (N:=(some 27)) (a':=?_) #[true,true,true,true,true,true,true,true,true,true,true,true,true,true,true,true,true,false,false,false,false,false,false] rfl rfl HT_.out (by kernel_rfl) (fun _ _ _ h=>h) (by rfl) ?_ ?_;rotate_left;(simp only [Act.put,u1_,u2_,u3_,i64_w,i32_w];rfl)
  refine pv_ (i:=17) (N:=(some 28)) (a':=?_) #[true,true,true,true,true,true,true,true,true,true,true,true,true,true,true,true,true,true,false,false,false,false,false] rfl rfl HT_.out (by kernel_rfl) (fun _ _ _ h=>h) (by rfl) ?_ ?_;rotate_left;(simp only [Act.put,u1_,u2_,u3_,i64_w,i32_w];rfl)
  refine pv_ (i:=18) (N:=(some 29)) (a':=?_) #[true,true,true,true,true,true,true,true,true,true,true,true,true,true,true,true,true,true,true,false,false,false,false] rfl rfl HT_.out (by kernel_rfl) (fun _ _ _ h=>h) (by rfl) ?_ ?_;rotate_left;(simp only [Act.put,u1_,u2_,u3_,i64_w,i32_w];rfl)
  refine pv_ (i:=19) (N:=(some 30)) (a':=?_) #[true,true,true,true,true,true,true,true,true,true,true,true,true,true,true,true,true,true,true,true,false,false,false] rfl rfl HT_.out (by kernel_rfl) (fun _ _ _ h=>h) (by rfl) ?_ ?_;rotate_left;(simp only [Act.put,u1_,u2_,u3_,i64_w,i32_w];rfl)
  refine pv_ (i:=20) (N:=(some 31)) (a':=?_) #[true,true,true,true,true,true,true,true,true,true,true,true,true,true,true,true,true,true,true,true,true,false,false] rfl rfl HT_.out (by kernel_rfl) (fun _ _ _ h=>h) (by rfl) ?_ ?_;rotate_left;(simp only [Act.put,u1_,u2_,u3_,i64_w,i32_w];rfl)
  refine pu_ (i:=21) (N:=(some 32)) (v:=?_) (a':=?_) #[true,true,true,true,true,true,true,true,true,true,true,true,true,true,true,true,true,true,true,true,true,true,false] rfl rfl HT_.out (by kernel_rfl) (fun _ _ _ h=>h) (by rfl) ?_ ?_ ?_;rotate_left;(intro w';go_simp;with_reducible rfl);rotate_left;(simp only [Act.put,u1_,u2_,u3_,i64_w,i32_w];rfl)
  refine pu_ (i:=22) (N:=(some 3)) (v:=?_) (a':=?_) #[true,true,true,true,true,true,true,true,true,true,true,true,true,true,true,true,true,true,true,true,true,true,true] rfl rfl HT_.out (by kernel_rfl) (fun _ _ _ h=>h) (by rfl) ?_ ?_ ?_;rotate_left;(intro w';go_simp;with_reducible rfl);rotate_left;(simp only [Act.put,u1_,u2_,u3_,i64_w,i32_w];rfl)
  refine done_ (done_of HT_.out (by kernel_rfl)) ?_
  all_goals go_wp2
  all_goals go_ret
  all_goals exact ⟨rfl,bp_ HBw.out HBo.out⟩
set_option maxRecDepth 100000 in
theorem CheckB (a : It) (n s p lim : Int) (w : World) (hwd : wid a.k=n) (hn : decide (0<n)=true) (f1 : wrap64 (8 * n)=s) (f2 : ∀ w',Sem.run Tryd.prog (Op.shift BinOp.shl IntKind.i64 1 IntKind.i64 s) w'=.ok (.int .i64 p) w')
    (f3 : wrap64 (p - 1)=lim0) (f4 : (if lim0<2147483647 then lim0 else 2147483647)=lim) (h0 : decide (0≤a.n)=true) (h1 : decide (a.n≤lim)=false) : Calls Tryd.prog 48 #[a.v] w fun e w'=>e=.returned (.int .i64 1)∧Below w.heap.size w w':=by
  have HB:=Lib.hid (Below.refl w.heap.size w)
  have WD:=fun w=>Lib.hid (width_any a.k w)
  rw [hwd] at WD;clear hwd;go_enter Tryd.func48,Tryd.ntmps48;go_wp2_with (first|(go_at_call 52; refine ((WD _).out).mono ?_; rintro e w' ⟨rfl,rfl⟩));have HBw:=Lib.hid (ba_ HB.out a.o);have HA:=Lib.hid (HasIt.alloc w a)
  obtain ⟨wo,hwo⟩ : ∃ wo,wo=w.alloc a.o:=⟨_,rfl⟩
  rw [← hwo] at HBw HA ⊢
  generalize w.heap.size=b at HA ⊢
  clear hwo;have HBo:=Lib.hid (be_ (Below.refl wo.heap.size wo))
  have HS : Hid (∀ wx,Below wo.heap.size wo wx→HasIt wx b a):=Lib.hid (fun wx h=>HA.out.below h)
  clear HA
  refine start_ (n:=23) (S:=fun wx=>HasIt wx b a) (ds:=[]) #[false,false,false,false,false,false,false,false,false,false,false,false,false,false,false,false,false,false,false,false,false,false,false] (by kernel_rfl) rfl rfl (HS.out _ HBo.out) (fun hHeld=>?_)
  refine with_tabW CheckB.tab CheckB.bits (fun HT_ HW_=>?_)
  generalize wo.drew=wD at HBo hHeld ⊢
  refine pu_ (i:=0) (N:=(some 11)) (v:=?_) (a':=?_) #[true,false,false,false,false,false,false,false,false,false,false,false,false,false,false,false,false,false,false,false,false,false,false] rfl rfl HT_.out (by kernel_rfl) (fun _ _ _ h=>h) (by rfl) ?_ ?_ ?_;rotate_left;(intro w';go_simp;with_reducible rfl);rotate_left;(simp only [Act.put,u1_,u2_,u3_,i64_w,i32_w];rfl)
  refine ta_ (i:=1) (N:=(some 12)) (v:=?_) (a':=?_) #[true,true,false,false,false,false,false,false,false,false,false,false,false,false,false,false,false,false,false,false,false,false,false] rfl rfl HT_.out HW_.out (by kernel_rfl) (fun _ _ _ h=>h) (by rfl) ?_ hHeld ?_ ?_;rotate_left;(rintro w' ⟨s0,s1,s2,s3⟩;go_simp;with_reducible rfl);rotate_left;(simp only [Act.put,u1_,u2_,u3_,i64_w,i32_w];rfl)
  refine pu_ (i:=2) (N:=(some 13)) (v:=?_) (a':=?_) #[true,true,true,false,false,false,false,false,false,false,false,false,false,false,false,false,false,false,false,false,false,false,false] rfl rfl HT_.out (by kernel_rfl) (fun _ _ _ h=>h) (by rfl) ?_ ?_ ?_;rotate_left;(intro w';go_simp;with_reducible rfl);rotate_left;(simp only [Act.put,u1_,u2_,u3_,i64_w,i32_w];rfl)
  refine pu_ (i:=3) (N:=(some 14)) (v:=?_) (a':=?_) #[true,true,true,true,false,false,false,false,false,false,false,false,false,false,false,false,false,false,false,false,false,false,false] rfl rfl HT_.out (by kernel_rfl) (fun _ _ _ h=>h) (by rfl) ?_ ?_ ?_;rotate_left;(intro w';go_simp;with_reducible rfl);rotate_left;(simp only [Act.put,u1_,u2_,u3_,i64_w,i32_w];rfl)
  refine pu_ (i:=4) (N:=(some 15)) (v:=?_) (a':=?_) #[true,true,true,true,true,false,false,false,false,false,false,false,false,false,false,false,false,false,false,false,false,false,false] rfl rfl HT_.out (by kernel_rfl) (fun _ _ _ h=>h) (by rfl) ?_ ?_ ?_;rotate_left;(intro w';go_simp;with_reducible rfl);rotate_left;(simp only [Act.put,u1_,u2_,u3_,i64_w,i32_w];rfl)
  refine ta_ (i:=5) (N:=(some 16)) (v:=?_) (a':=?_) #[true,true,true,true,true,true,false,false,false,false,false,false,false,false,false,false,false,false,false,false,false,false,false] rfl rfl HT_.out HW_.out (by kernel_rfl) (fun _ _ _ h=>h) (by rfl) ?_ hHeld ?_ ?_;rotate_left;(rintro w' ⟨s0,s1,s2,s3⟩;go_simp;with_reducible rfl);rotate_left;(simp only [Act.put,u1_,u2_,u3_,i64_w,i32_w];rfl)
  refine pu_ (i:=6) (N:=(some 17)) (v:=?_) (a':=?_) #[true,true,true,true,true,true,true,false,false,false,false,false,false,false,false,false,false,false,false,false,false,false,false] rfl rfl HT_.out (by kernel_rfl) (fun _ _ _ h=>h) (by rfl) ?_ ?_ ?_;rotate_left;(intro w';go_simp;with_reducible rfl);rotate_left;(simp only [Act.put,u1_,u2_,u3_,i64_w,i32_w];rfl)
  refine pu_ (i:=7) (N:=(some 18)) (v:=?_) (a':=?_) #[true,true,true,true,true,true,true,true,false,false,false,false,false,false,false,false,false,false,false,false,false,false,false] rfl rfl HT_.out (by kernel_rfl) (fun _ _ _ h=>h) (by rfl) ?_ ?_ ?_;rotate_left;(intro w';go_simp;with_reducible rfl);rotate_left;(simp only [Act.put,u1_,u2_,u3_,i64_w,i32_w];rfl)
  refine pu_ (i:=8) (N:=(some 19)) (v:=?_) (a':=?_) #[true,true,true,true,true,true,true,true,true,false,false,false,false,false,false,false,false,false,false,false,false,false,false] rfl rfl HT_.out (by kernel_rfl) (fun _ _ _ h=>h) (by rfl) ?_ ?_ ?_;rotate_left;(intro w';go_simp;with_reducible rfl);rotate_left;(simp only [Act.put,u1_,u2_,u3_,i64_w,i32_w];rfl)
  refine pu_ (i:=9) (N:=(some 20)) (v:=?_) (a':=?_) #[true,true,true,true,true,true,true,true,true,true,false,false,false,false,false,false,false,false,false,false,false,false,false] rfl rfl HT_.out (by kernel_rfl) (fun _ _ _ h=>h) (by rfl) ?_ ?_ ?_;rotate_left;(intro w';go_simp;with_reducible rfl);rotate_left;(simp only [Act.put,u1_,u2_,u3_,i64_w,i32_w];rfl)
  refine pu_ (i:=10) (N:=(some 21)) (v:=?_) (a':=?_) #[true,true,true,true,true,true,true,true,true,true,true,false,false,false,false,false,false,false,false,false,false,false,false] rfl rfl HT_.out (by kernel_rfl) (fun _ _ _ h=>h) (by rfl) ?_ ?_ ?_;rotate_left;(intro w';go_simp;with_reducible rfl);rotate_left;(simp only [Act.put,u1_,u2_,u3_,i64_w,i32_w];rfl)
  refine pu_ (i:=11) (N:=(some 22)) (v:=?_) (a':=?_) #[true,true,true,true,true,true,true,true,true,true,true,true,false,false,false,false,false,false,false,false,false,false,false] rfl rfl HT_.out (by kernel_rfl) (fun _ _ _ h=>h) (by rfl) ?_ ?_ ?_;rotate_left;(intro w';go_simp;with_reducible rfl);rotate_left;(simp only [Act.put,u1_,u2_,u3_,i64_w,i32_w];rfl)
  refine pu_ (i:=12) (N:=(some 23)) (v:=?_) (a':=?_) #[true,true,true,true,true,true,true,true,true,true,true,true,true,false,false,false,false,false,false,false,false,false,false] rfl rfl HT_.out (by kernel_rfl) (fun _ _ _ h=>h) (by rfl) ?_ ?_ ?_;rotate_left;(intro w';go_simp;with_reducible rfl);rotate_left;(simp only [Act.put,u1_,u2_,u3_,i64_w,i32_w];rfl)
  refine pu_ (i:=13) (N:=(some 24)) (v:=?_) (a':=?_) #[true,true,true,true,true,true,true,true,true,true,true,true,true,true,false,false,false,false,false,false,false,false,false] rfl rfl HT_.out (by kernel_rfl) (fun _ _ _ h=>h) (by rfl) ?_ ?_ ?_;rotate_left;(intro w';go_simp;with_reducible rfl);rotate_left;(simp only [Act.put,u1_,u2_,u3_,i64_w,i32_w];rfl)
  refine pv_ (i:=14) (N:=(some 25)) (a':=?_) #[true,true,true,true,true,true,true,true,true,true,true,true,true,true,true,false,false,false,false,false,false,false,false] rfl rfl HT_.out (by kernel_rfl) (fun _ _ _ h=>h) (by rfl) ?_ ?_;rotate_left;(simp only [Act.put,u1_,u2_,u3_,i64_w,i32_w];rfl)
  refine pv_ (i:=15) (N:=(some 26)) (a':=?_) #[true,true,true,true,true,true,true,true,true,true,true,true,true,true,true,true,false,false,false,false,false,false,false] rfl rfl HT_.out (by kernel_rfl) (fun _ _ _ h=>h) (by rfl) ?_ ?_;rotate_left;(simp only [Act.put,u1_,u2_,u3_,i64_w,i32_w];rfl)
  refine pv_ (i:=16) (N:=(some 27)) (a':=?_) #[true,true,true,true,true,true,true,true,true,true,true,true,true,true,true,true,true,false,false,false,false,false,false] rfl rfl HT_.out (by kernel_rfl) (fun _ _ _ h=>h) (by rfl) ?_ ?_;rotate_left;(simp only [Act.put,u1_,u2_,u3_,i64_w,i32_w];rfl)
  refine pv_ (i:=17) (N:=(some 28)) (a':=?_) #[true,true,true,true,true,true,true,true,true,true,true,true,true,true,true,true,true,true,false,false,false,false,false] rfl rfl HT_.out (by kernel_rfl) (fun _ _ _ h=>h) (by rfl) ?_ ?_;rotate_left;(simp only [Act.put,u1_,u2_,u3_,i64_w,i32_w];rfl)
  refine pv_ (i:=18) (N:=(some 29)) (a':=?_) #[true,true,true,true,true,true,true,true,true,true,true,true,true,true,true,true,true,true,true,false,false,false,false] rfl rfl HT_.out (by kernel_rfl) (fun _ _ _ h=>h) (by rfl) ?_ ?_;rotate_left;(simp only [Act.put,u1_,u2_,u3_,i64_w,i32_w];rfl)
  refine pv_ (i:=19) (N:=(some 30)) (a':=?_) #[true,true,true,true,true,true,true,true,true,true,true,true,true,true,true,true,true,true,true,true,false,false,false] rfl rfl HT_.out (by kernel_rfl) (fun _ _ _ h=>h) (by rfl) ?_ ?_;rotate_left;(simp only [Act.put,u1_,u2_,u3_,i64_w,i32_w];rfl)
  refine pv_ (i:=20) (N:=(some 31)) (a':=?_) #[true,true,true,true,true,true,true,true,true,true,true,true,true,true,true,true,true,true,true,true,true,false,false] rfl rfl HT_.out (by kernel_rfl) (fun _ _ _ h=>h) (by rfl) ?_ ?_;rotate_left;(simp only [Act.put,u1_,u2_,u3_,i64_w,i32_w];rfl)
  refine pu_ (i:=21) (N:=(some 32)) (v:=?_) (a':=?_) #[true,true,true,true,true,true,true,true,true,true,true,true,true,true,true,true,true,true,true,true,true,true,false] rfl rfl HT_.out (by kernel_rfl) (fun _ _ _ h=>h) (by rfl) ?_ ?_ ?_;rotate_left;(intro w';go_simp;with_reducible rfl);rotate_left;(simp only [Act.put,u1_,u2_,u3_,i64_w,i32_w];rfl)
  refine pu_ (i:=22) (N:=(some 3)) (v:=?_) (a':=?_) #[true,true,true,true,true,true,true,true,true,true,true,true,true,true,true,true,true,true,true,true,true,true,true] rfl rfl HT_.out (by kernel_rfl) (fun _ _ _ h=>h) (by rfl) ?_ ?_ ?_;rotate_left;(intro w';go_simp;with_reducible rfl);rotate_left;(simp only [Act.put,u1_,u2_,u3_,i64_w,i32_w];rfl)
  refine done_ (done_of HT_.out (by kernel_rfl)) ?_
  all_goals go_wp2
  all_goals go_ret
  all_goals exact ⟨rfl,bp_ HBw.out HBo.out⟩
set_option maxRecDepth 100000 in
theorem CheckC (a : It) (n s p lim : Int) (w : World) (hwd : wid a.k=n) (hn : decide (0<n)=true) (f1 : wrap64 (8 * n)=s) (f2 : ∀ w',Sem.run Tryd.prog (Op.shift BinOp.shl IntKind.i64 1 IntKind.i64 s) w'=.ok (.int .i64 p) w')
    (f3 : wrap64 (p - 1)=lim0) (f4 : (if lim0<2147483647 then lim0 else 2147483647)=lim) (h0 : decide (0≤a.n)=true) (h1 : decide (a.n≤lim)=true) : Calls Tryd.prog 48 #[a.v] w fun e w'=>e=.returned (.int .i64 (if same a ⟨a.k,a.n,0,⟨#[]⟩⟩=true then 0 else 1))∧Below w.heap.size w w':=by
  have HB:=Lib.hid (Below.refl w.heap.size w)
  have WD:=fun w=>Lib.hid (width_any a.k w)
  rw [hwd] at WD;clear hwd
  have PS:=Lib.hid (fun w=>pSame_any a ⟨a.k,a.n,0,⟨#[]⟩⟩ w)
  generalize same a ⟨a.k,a.n,0,⟨#[]⟩⟩=q at PS ⊢
  go_enter Tryd.func48,Tryd.ntmps48;go_wp2_with (first|(go_at_call 52; refine ((WD _).out).mono ?_; rintro e w' ⟨rfl,rfl⟩));have HBw:=Lib.hid (ba_ HB.out a.o);have HA:=Lib.hid (HasIt.alloc w a)
  obtain ⟨wo,hwo⟩ : ∃ wo,wo=w.alloc a.o:=⟨_,rfl⟩
  rw [← hwo] at HBw HA ⊢
  generalize w.heap.size=b at HA ⊢
  clear hwo;have HBo:=Lib.hid (be_ (Below.refl wo.heap.size wo))
  have HS : Hid (∀ wx,Below wo.heap.size wo wx→HasIt wx b a):=Lib.hid (fun wx h=>HA.out.below h)
  clear HA
  refine start_ (n:=23) (S:=fun wx=>HasIt wx b a) (ds:=[]) #[false,false,false,false,false,false,false,false,false,false,false,false,false,false,false,false,false,false,false,false,false,false,false] (by kernel_rfl) rfl rfl (HS.out _ HBo.out) (fun hHeld=>?_)
  refine with_tabW CheckC.tab CheckC.bits (fun HT_ HW_=>?_)
  generalize wo.drew=wD at HBo hHeld ⊢
  refine pu_ (i:=0) (N:=(some 11)) (v:=?_) (a':=?_) #[true,false,false,false,false,false,false,false,false,false,false,false,false,false,false,false,false,false,false,false,false,false,false] rfl rfl HT_.out (by kernel_rfl) (fun _ _ _ h=>h) (by rfl) ?_ ?_ ?_;rotate_left;(intro w';go_simp;with_reducible rfl);rotate_left;(simp only [Act.put,u1_,u2_,u3_,i64_w,i32_w];rfl)
  refine ta_ (i:=1) (N:=(some 12)) (v:=?_) (a':=?_) #[true,true,false,false,false,false,false,false,false,false,false,false,false,false,false,false,false,false,false,false,false,false,false] rfl rfl HT_.out HW_.out (by kernel_rfl) (fun _ _ _ h=>h) (by rfl) ?_ hHeld ?_ ?_;rotate_left;(rintro w' ⟨s0,s1,s2,s3⟩;go_simp;with_reducible rfl);rotate_left;(simp only [Act.put,u1_,u2_,u3_,i64_w,i32_w];rfl)
  refine pu_ (i:=2) (N:=(some 13)) (v:=?_) (a':=?_) #[true,true,true,false,false,false,false,false,false,false,false,false,false,false,false,false,false,false,false,false,false,false,false] rfl rfl HT_.out (by kernel_rfl) (fun _ _ _ h=>h) (by rfl) ?_ ?_ ?_;rotate_left;(intro w';go_simp;with_reducible rfl);rotate_left;(simp only [Act.put,u1_,u2_,u3_,i64_w,i32_w];rfl)
  refine pu_ (i:=3) (N:=(some 14)) (v:=?_) (a':=?_) #[true,true,true,true,false,false,false,false,false,false,false,false,false,false,false,false,false,false,false,false,false,false,false] rfl rfl HT_.out (by kernel_rfl) (fun _ _ _ h=>h) (by rfl) ?_ ?_ ?_;rotate_left;(intro w';go_simp;with_reducible rfl);rotate_left;(simp only [Act.put,u1_,u2_,u3_,i64_w,i32_w];rfl)
  refine pu_ (i:=4) (N:=(some 15)) (v:=?_) (a':=?_) #[true,true,true,true,true,false,false,false,false,false,false,false,false,false,false,false,false,false,false,false,false,false,false] rfl rfl HT_.out (by kernel_rfl) (fun _ _ _ h=>h) (by rfl) ?_ ?_ ?_;rotate_left;(intro w';go_simp;with_reducible rfl);rotate_left;(simp only [Act.put,u1_,u2_,u3_,i64_w,i32_w];rfl)
  refine ta_ (i:=5) (N:=(some 16)) (v:=?_) (a':=?_) #[true,true,true,true,true,true,false,false,false,false,false,false,false,false,false,false,false,false,false,false,false,false,false] rfl rfl HT_.out HW_.out (by kernel_rfl) (fun _ _ _ h=>h) (by rfl) ?_ hHeld ?_ ?_;rotate_left;(rintro w' ⟨s0,s1,s2,s3⟩;go_simp;with_reducible rfl);rotate_left;(simp only [Act.put,u1_,u2_,u3_,i64_w,i32_w];rfl)
  refine pu_ (i:=6) (N:=(some 17)) (v:=?_) (a':=?_) #[true,true,true,true,true,true,true,false,false,false,false,false,false,false,false,false,false,false,false,false,false,false,false] rfl rfl HT_.out (by kernel_rfl) (fun _ _ _ h=>h) (by rfl) ?_ ?_ ?_;rotate_left;(intro w';go_simp;with_reducible rfl);rotate_left;(simp only [Act.put,u1_,u2_,u3_,i64_w,i32_w];rfl)
  refine pu_ (i:=7) (N:=(some 18)) (v:=?_) (a':=?_) #[true,true,true,true,true,true,true,true,false,false,false,false,false,false,false,false,false,false,false,false,false,false,false] rfl rfl HT_.out (by kernel_rfl) (fun _ _ _ h=>h) (by rfl) ?_ ?_ ?_;rotate_left;(intro w';go_simp;with_reducible rfl);rotate_left;(simp only [Act.put,u1_,u2_,u3_,i64_w,i32_w];rfl)
  refine pu_ (i:=8) (N:=(some 19)) (v:=?_) (a':=?_) #[true,true,true,true,true,true,true,true,true,false,false,false,false,false,false,false,false,false,false,false,false,false,false] rfl rfl HT_.out (by kernel_rfl) (fun _ _ _ h=>h) (by rfl) ?_ ?_ ?_;rotate_left;(intro w';go_simp;with_reducible rfl);rotate_left;(simp only [Act.put,u1_,u2_,u3_,i64_w,i32_w];rfl)
  refine pu_ (i:=9) (N:=(some 20)) (v:=?_) (a':=?_) #[true,true,true,true,true,true,true,true,true,true,false,false,false,false,false,false,false,false,false,false,false,false,false] rfl rfl HT_.out (by kernel_rfl) (fun _ _ _ h=>h) (by rfl) ?_ ?_ ?_;rotate_left;(intro w';go_simp;with_reducible rfl);rotate_left;(simp only [Act.put,u1_,u2_,u3_,i64_w,i32_w];rfl)
  refine pu_ (i:=10) (N:=(some 21)) (v:=?_) (a':=?_) #[true,true,true,true,true,true,true,true,true,true,true,false,false,false,false,false,false,false,false,false,false,false,false] rfl rfl HT_.out (by kernel_rfl) (fun _ _ _ h=>h) (by rfl) ?_ ?_ ?_;rotate_left;(intro w';go_simp;with_reducible rfl);rotate_left;(simp only [Act.put,u1_,u2_,u3_,i64_w,i32_w];rfl)
  refine pu_ (i:=11) (N:=(some 22)) (v:=?_) (a':=?_) #[true,true,true,true,true,true,true,true,true,true,true,true,false,false,false,false,false,false,false,false,false,false,false] rfl rfl HT_.out (by kernel_rfl) (fun _ _ _ h=>h) (by rfl) ?_ ?_ ?_;rotate_left;(intro w';go_simp;with_reducible rfl);rotate_left;(simp only [Act.put,u1_,u2_,u3_,i64_w,i32_w];rfl)
  refine pu_ (i:=12) (N:=(some 23)) (v:=?_) (a':=?_) #[true,true,true,true,true,true,true,true,true,true,true,true,true,false,false,false,false,false,false,false,false,false,false] rfl rfl HT_.out (by kernel_rfl) (fun _ _ _ h=>h) (by rfl) ?_ ?_ ?_;rotate_left;(intro w';go_simp;with_reducible rfl);rotate_left;(simp only [Act.put,u1_,u2_,u3_,i64_w,i32_w];rfl)
  refine pu_ (i:=13) (N:=(some 24)) (v:=?_) (a':=?_) #[true,true,true,true,true,true,true,true,true,true,true,true,true,true,false,false,false,false,false,false,false,false,false] rfl rfl HT_.out (by kernel_rfl) (fun _ _ _ h=>h) (by rfl) ?_ ?_ ?_;rotate_left;(intro w';go_simp;with_reducible rfl);rotate_left;(simp only [Act.put,u1_,u2_,u3_,i64_w,i32_w];rfl)
  refine ta_ (i:=14) (N:=(some 25)) (v:=?_) (a':=?_) #[true,true,true,true,true,true,true,true,true,true,true,true,true,true,true,false,false,false,false,false,false,false,false] rfl rfl HT_.out HW_.out (by kernel_rfl) (fun _ _ _ h=>h) (by rfl) ?_ hHeld ?_ ?_;rotate_left;(rintro w' ⟨s0,s1,s2,s3⟩;go_simp;with_reducible rfl);rotate_left;(simp only [Act.put,u1_,u2_,u3_,i64_w,i32_w];rfl)
  refine pu_ (i:=15) (N:=(some 26)) (v:=?_) (a':=?_) #[true,true,true,true,true,true,true,true,true,true,true,true,true,true,true,true,false,false,false,false,false,false,false] rfl rfl HT_.out (by kernel_rfl) (fun _ _ _ h=>h) (by rfl) ?_ ?_ ?_;rotate_left;(intro w';go_simp;with_reducible rfl);rotate_left;(simp only [Act.put,u1_,u2_,u3_,i64_w,i32_w];rfl)
  refine ta_ (i:=16) (N:=(some 27)) (v:=?_) (a':=?_) #[true,true,true,true,true,true,true,true,true,true,true,true,true,true,true,true,true,false,false,false,false,false,false] rfl rfl HT_.out HW_.out (by kernel_rfl) (fun _ _ _ h=>h) (by rfl) ?_ hHeld ?_ ?_;rotate_left;(rintro w' ⟨s0,s1,s2,s3⟩;go_simp;with_reducible rfl);rotate_left;(simp only [Act.put,u1_,u2_,u3_,i64_w,i32_w];rfl)
  refine pu_ (i:=17) (N:=(some 28)) (v:=?_) (a':=?_) #[true,true,true,true,true,true,true,true,true,true,true,true,true,true,true,true,true,true,false,false,false,false,false] rfl rfl HT_.out (by kernel_rfl) (fun _ _ _ h=>h) (by rfl) ?_ ?_ ?_;rotate_left;(intro w';go_simp;with_reducible rfl);rotate_left;(simp only [Act.put,u1_,u2_,u3_,i64_w,i32_w];rfl)
  refine ta_ (i:=18) (N:=(some 29)) (v:=?_) (a':=?_) #[true,true,true,true,true,true,true,true,true,true,true,true,true,true,true,true,true,true,true,false,false,false,false] rfl rfl HT_.out HW_.out (by kernel_rfl) (fun _ _ _ h=>h) (by rfl) ?_ hHeld ?_ ?_;rotate_left;(rintro w' ⟨s0,s1,s2,s3⟩;go_simp;with_reducible rfl);rotate_left;(simp only [Act.put,u1_,u2_,u3_,i64_w,i32_w];rfl)
  refine pu_ (i:=19) (N:=(some 30)) (v:=?_) (a':=?_) #[true,true,true,true,true,true,true,true,true,true,true,true,true,true,true,true,true,true,true,true,false,false,false] rfl rfl HT_.out (by kernel_rfl) (fun _ _ _ h=>h) (by rfl) ?_ ?_ ?_;rotate_left;(intro w';go_simp;with_reducible rfl);rotate_left;(simp only [Act.put,u1_,u2_,u3_,i64_w,i32_w];rfl)
  refine one_ (i:=20) (N:=(some 31)) #[true,true,true,true,true,true,true,true,true,true,true,true,true,true,true,true,true,true,true,true,true,false,false] rfl rfl (one_of HT_.out (by kernel_rfl)) (by decide) (fun K hK=>?_)
  refine goes_ Tryd.func68 (by kernel_rfl) rfl #[a.v,(⟨a.k,a.n,0,⟨#[]⟩⟩ : It).v] (by rfl) rfl rfl (by (try simp only [List.map_toArray,List.map_cons,List.map_nil]); first|done|rfl) ?_
  refine (PS.out _).mono ?_;rintro e w' ⟨rfl,hb'⟩;refine ⟨_,rfl,?_⟩;have HBo:=Lib.hid (bp_ HBo.out hb');clear hb'
  refine hK.out _ _ (HS.out _ HBo.out) (fun hHeld=>?_)
  clear hK K
  refine norm_ (a':=?_) ?_ ?_;rotate_left;(show Act.put _ (some 31) _=_;simp only [Act.put,u1_,u2_,u3_,i64_w,i32_w];rfl)
  refine pu_ (i:=21) (N:=(some 32)) (v:=?_) (a':=?_) #[true,true,true,true,true,true,true,true,true,true,true,true,true,true,true,true,true,true,true,true,true,true,false] rfl rfl HT_.out (by kernel_rfl) (fun _ _ _ h=>h) (by rfl) ?_ ?_ ?_;rotate_left;(intro w';go_simp;with_reducible rfl);rotate_left;(simp only [Act.put,u1_,u2_,u3_,i64_w,i32_w];rfl)
  refine pu_ (i:=22) (N:=(some 3)) (v:=?_) (a':=?_) #[true,true,true,true,true,true,true,true,true,true,true,true,true,true,true,true,true,true,true,true,true,true,true] rfl rfl HT_.out (by kernel_rfl) (fun _ _ _ h=>h) (by rfl) ?_ ?_ ?_;rotate_left;(intro w';go_simp;with_reducible rfl);rotate_left;(simp only [Act.put,u1_,u2_,u3_,i64_w,i32_w];rfl)
  refine done_ (done_of HT_.out (by kernel_rfl)) ?_
  cases q
  all_goals go_wp2
  all_goals go_ret
  all_goals exact ⟨rfl,bp_ HBw.out HBo.out⟩
def lim (k : Int) : Int:=if k=1 then 255 else if k=2 then 65535 else 2147483647
def may (a : It) : Bool :=
  if a.k=1∨a.k=2∨a.k=3 then decide (0≤a.n) && decide (a.n≤lim a.k) && same a ⟨a.k,a.n,0,⟨#[]⟩⟩
  else if a.k=4 then a.n == 0 && a.s.toList.isEmpty
  else if a.k=5 then decide ((a.s.size : Int)≤255) && same a ⟨a.k,0,0,a.s⟩ else false
def erOf (b : Bool) : Int:=if b=true then 0 else 1
theorem Check_123 (a : It) (n s p l0 l : Int) (w : World) (hwd : wid a.k=n) (hn : decide (0<n)=true) (f1 : wrap64 (8 * n)=s) (f2 : ∀ w',Sem.run Tryd.prog (Op.shift BinOp.shl IntKind.i64 1 IntKind.i64 s) w'=.ok (.int .i64 p) w')
    (f3 : wrap64 (p - 1)=l0) (f4 : (if l0<2147483647 then l0 else 2147483647)=l) : Calls Tryd.prog 48 #[a.v] w fun e w'=>e=.returned (.int .i64 (erOf (decide (0≤a.n) && decide (a.n≤l) && same a ⟨a.k,a.n,0,⟨#[]⟩⟩)))∧Below w.heap.size w w':=by
  cases h0 : decide (0≤a.n) with
  | false=>exact CheckA l0 a n s p l w hwd hn f1 f2 f3 f4 h0
  | true =>
    cases h1 : decide (a.n≤l) with
    | false=>exact CheckB l0 a n s p l w hwd hn f1 f2 f3 f4 h0 h1
    | true=>exact CheckC l0 a n s p l w hwd hn f1 f2 f3 f4 h0 h1
theorem Check_any (a : It) (w : World) : Calls Tryd.prog 48 #[a.v] w fun e w'=>e=.returned (.int .i64 (erOf (may a)))∧Below w.heap.size w w':=by
  obtain ⟨k,an,ax,sx⟩:=a
  by_cases h1 : k=1
  · subst h1
    exact Check_123 ⟨1,an,ax,sx⟩ 1 8 256 255 255 w (by first|decide|rfl) (by decide) (by kernel_rfl) (fun _=>by kernel_rfl) (by kernel_rfl) (by decide)
  by_cases h2 : k=2
  · subst h2
    exact Check_123 ⟨2,an,ax,sx⟩ 2 16 65536 65535 65535 w (by first|decide|rfl) (by decide) (by kernel_rfl) (fun _=>by kernel_rfl) (by kernel_rfl) (by decide)
  by_cases h3 : k=3
  · subst h3
    exact Check_123 ⟨3,an,ax,sx⟩ 4 32 4294967296 4294967295 2147483647 w (by first|decide|rfl) (by decide) (by kernel_rfl) (fun _=>by kernel_rfl) (by kernel_rfl) (by decide)
  have HB:=Lib.hid (Below.refl w.heap.size w)
  have WD:=fun w=>Lib.hid (width_any k w)
  rw [show wid k=0 by unfold wid; rw [if_neg h1,if_neg h2,if_neg h3]] at WD
  by_cases h4 : k=4
  · subst h4
    rw [show may ⟨4,an,ax,sx⟩=(an == 0 && sx.toList.isEmpty) from rfl]
    clear h1 h2 h3;go_enter Tryd.func48,Tryd.ntmps48;go_wp2_with (first|(go_at_call 52; refine ((WD _).out).mono ?_; rintro e w' ⟨rfl,rfl⟩))
    all_goals go_ret
    all_goals refine ⟨ret_int ?_,(hb0_ HB.out)⟩
    all_goals unfold erOf
    all_goals simp_all
  by_cases h5 : k=5
  · subst h5
    rw [show may ⟨5,an,ax,sx⟩=(decide ((sx.size : Int)≤255) && same ⟨5,an,ax,sx⟩ ⟨5,0,0,sx⟩) from rfl]
    clear h1 h2 h3 h4
    have PS:=Lib.hid (fun w=>pSame_any ⟨5,an,ax,sx⟩ ⟨5,0,0,sx⟩ w)
    generalize same ⟨5,an,ax,sx⟩ ⟨5,0,0,sx⟩=q at PS ⊢
    go_enter Tryd.func48,Tryd.ntmps48;go_wp2_with (first|(go_at_call 52; refine ((WD _).out).mono ?_; rintro e w' ⟨rfl,rfl⟩)|(go_at_call 68; refine (PS.out _).mono ?_; rintro e w' ⟨rfl,hb⟩; have HB:=Lib.hid (bp_ (hb0_ HB.out) hb); clear hb))
    all_goals go_ret
    all_goals refine ⟨ret_int ?_,(hb0_ HB.out)⟩
    all_goals unfold erOf
    all_goals simp_all
    all_goals (intro h; exfalso; omega)
  rw [show may ⟨k,an,ax,sx⟩=false by unfold may; simp [h1,h2,h3,h4,h5]]
  have g4 : (k == 4)=false:=by rw [beq_eq_false_iff_ne]; exact h4
  have g5 : (k == 5)=false:=by rw [beq_eq_false_iff_ne]; exact h5
  clear h1 h2 h3 h4 h5;go_enter Tryd.func48,Tryd.ntmps48;go_wp2_with (first|(go_at_call 52; refine ((WD _).out).mono ?_; rintro e w' ⟨rfl,rfl⟩));go_ret;exact ⟨rfl,(hb0_ HB.out)⟩
end Go.Proofs.YtbmcbhpkefjhbaaDoor.Pac
namespace Go.Proofs.YtbmcbhpkefjhbaaDoor.Pac
open Go.RowKit YtbmcbhpkefjhbaaDoor YtbmcbhpkefjhbaaDoor.Mem YtbmcbhpkefjhbaaDoorW.PrintWords YtbmcbhpkefjhbaaDoorW.PrintLast YtbmcbhpkefjhbaaDoorW.PrintMore
theorem may_1 (n : Int) (x : Nat) (s : ByteArray) : may ⟨1,n,x,s⟩=(decide (0≤n) && decide (n<256) && ((x : Int) == 0) && s.toList.isEmpty):=by
  unfold may same lim
  rw [Bool.eq_iff_iff]
  simp
  constructor <;> intro h <;> simp only [h] <;> simp <;> omega
theorem may_2 (n : Int) (x : Nat) (s : ByteArray) : may ⟨2,n,x,s⟩=(decide (0≤n) && decide (n<65536) && ((x : Int) == 0) && s.toList.isEmpty):=by
  unfold may same lim
  rw [Bool.eq_iff_iff]
  simp
  constructor <;> intro h <;> simp only [h] <;> simp <;> omega
theorem may_3 (n : Int) (x : Nat) (s : ByteArray) : may ⟨3,n,x,s⟩=(decide (0≤n) && decide (n<2147483648) && ((x : Int) == 0) && s.toList.isEmpty):=by
  unfold may same lim
  rw [Bool.eq_iff_iff]
  simp
  constructor <;> intro h <;> simp only [h] <;> simp <;> omega
theorem may_4 (n : Int) (x : Nat) (s : ByteArray) : may ⟨4,n,x,s⟩=(n == 0 && s.toList.isEmpty):=rfl
theorem may_5 (n : Int) (x : Nat) (s : ByteArray) : may ⟨5,n,x,s⟩=(n == 0 && ((x : Int) == 0) && decide ((s.size : Int)<256)):=by
  unfold may same
  rw [Bool.eq_iff_iff]
  simp
  constructor <;> intro h <;> simp only [h] <;> simp <;> omega
theorem may_0 {k : Int} (h : k<1∨5<k) (n : Int) (x : Nat) (s : ByteArray) : may ⟨k,n,x,s⟩=false:=by
  unfold may
  simp only
  rw [if_neg (by omega),if_neg (by omega),if_neg (by omega)]
theorem may_kind {a : It} (h : may a=true) : 1≤a.k∧a.k≤5:=by
  by_cases hk : a.k<1∨5<a.k
  · have:=may_0 hk a.n a.x a.s
    rw [show (⟨a.k,a.n,a.x,a.s⟩ : It)=a from rfl,h] at this
    cases this
  · omega
set_option maxRecDepth 100000 in
set_option maxHeartbeats 1000000 in
theorem May_any (a : It) (w : World) : Calls Tryd.prog 46 #[a.v] w fun e w'=>e=.returned (.bool (may a))∧Below w.heap.size w w':=by
  obtain ⟨k,an,ax,sx⟩:=a;have HB:=Lib.hid (Below.refl w.heap.size w)
  have hk : k=1∨k=2∨k=3∨k=4∨k=5∨(k<1∨5<k):=by omega
  have hx : ∀ b : Bool,(b=true)∨(b=false):=by intro b; cases b <;> simp
  rcases hk with rfl|rfl|rfl|rfl|rfl|hk
  · rw [may_1]
    go_enter Tryd.func46,Tryd.ntmps46;go_wp2_with (first|(go_at_call 65; refine (rSame_any _ _ _).mono ?_; rintro e w' ⟨rfl,rfl⟩))
    all_goals go_ret
    all_goals refine ⟨ret_bool ?_,(hb0_ HB.out)⟩
    all_goals simp_all
    all_goals (intros; exfalso; omega)
  · rw [may_2]
    go_enter Tryd.func46,Tryd.ntmps46;go_wp2_with (first|(go_at_call 65; refine (rSame_any _ _ _).mono ?_; rintro e w' ⟨rfl,rfl⟩))
    all_goals go_ret
    all_goals refine ⟨ret_bool ?_,(hb0_ HB.out)⟩
    all_goals simp_all
    all_goals (intros; exfalso; omega)
  · rw [may_3]
    go_enter Tryd.func46,Tryd.ntmps46;go_wp2_with (first|(go_at_call 65; refine (rSame_any _ _ _).mono ?_; rintro e w' ⟨rfl,rfl⟩))
    all_goals go_ret
    all_goals refine ⟨ret_bool ?_,(hb0_ HB.out)⟩
    all_goals simp_all
    all_goals (intros; exfalso; omega)
  · rw [may_4]
    go_enter Tryd.func46,Tryd.ntmps46;go_wp2_with (first|(go_at_call 65; refine (rSame_any _ _ _).mono ?_; rintro e w' ⟨rfl,rfl⟩))
    all_goals go_ret
    all_goals refine ⟨ret_bool ?_,(hb0_ HB.out)⟩
    all_goals simp_all
  · rw [may_5]
    go_enter Tryd.func46,Tryd.ntmps46;go_wp2_with (first|(go_at_call 65; refine (rSame_any _ _ _).mono ?_; rintro e w' ⟨rfl,rfl⟩))
    all_goals go_ret
    all_goals refine ⟨ret_bool ?_,(hb0_ HB.out)⟩
    all_goals simp_all
  · rw [may_0 hk]
    have g1 : (k == 1)=false:=by rw [beq_eq_false_iff_ne]; omega
    have g2 : (k == 2)=false:=by rw [beq_eq_false_iff_ne]; omega
    have g3 : (k == 3)=false:=by rw [beq_eq_false_iff_ne]; omega
    have g4 : (k == 4)=false:=by rw [beq_eq_false_iff_ne]; omega
    have g5 : (k == 5)=false:=by rw [beq_eq_false_iff_ne]; omega
    clear hk;go_enter Tryd.func46,Tryd.ntmps46;go_wp2_with (first|(go_at_call 65; refine (rSame_any _ _ _).mono ?_; rintro e w' ⟨rfl,rfl⟩));go_ret;exact ⟨rfl,(hb0_ HB.out)⟩
theorem rep_set (m : Nat) (z : Int) (bs : List Int) : (List.replicate (m + 1) (0 : Int)++bs).set m z=List.replicate m 0++z :: bs:=by
  induction m with
  | zero=>rfl
  | succ m ih=>rw [List.replicate_succ,List.cons_append,List.set_cons_succ,ih,List.replicate_succ,List.cons_append]
set_option maxRecDepth 100000 in
theorem big_any (u : Int) (n : Nat) (w : World) (h0 : 0≤u) (h1 : u≤18446744073709551615) (hn1 : 1≤n) (hn : n≤8) : Calls Tryd.prog 66 #[.int .u64 u,.int .i64 (n : Int)] w fun e w'=>∃ v,e=.returned v∧Kd.R (Kd.int .u8) 5 w' w.heap.size (fun _=>True) v (bigs u n)∧Below w.heap.size w w':=by
  have HB:=Lib.hid (Below.refl w.heap.size w);have n0 : (0 : Int)≤(n : Int):=Int.natCast_nonneg _
  have n1 : (n : Int)≤8:=by omega
  go_enter Tryd.func66,Tryd.ntmps66
  go_wp2_with (first|((with_reducible refine gate_dst (N:=8) rfl ?_); refine Kd.R_make (Kd.int .u8) (w0:=w) w.heap.size 5 rfl rfl 22 (.tmp 7) (.tmp 7) rfl ((n : Int)) rfl rfl Tryd.underlying22 (.int .u8 0) 1 info8 rfl (by decide) (by decide) 0 (okp:=fun _=>True) (ok:=fun _=>True) ?aZ (fun _ h=>h) trivial n0 ?aL (hb0_ HB.out) (bz_ (hb0_ HB.out)) ?_; (case aZ=>rfl); (case aL=>omega); intro v8 w8 ho hb hg hat; have HG8:=Lib.hid hg; have HAT8:=Lib.hid hat; clear hg hat; have HO8:=Lib.hid ho; have HB:=Lib.hid hb; clear ho hb))
  go_loopg [0,6] n (fun k v0 v6 wr=>∃ m : Nat,k + m=n∧v6=.int .i64 ((n : Int) - (m : Int) - 1)∧v0=.int .u64 (u / 2 ^ (8 * m))∧Hid (Kd.R (Kd.int .u8) 5 wr w.heap.size (fun _=>True) v8 (List.replicate (n - m) 0++bigs u m))∧Hid (Below w.heap.size w wr))
  case atStart=>exact ⟨0,rfl,by go_num,by simp,by simpa [bigs] using HO8,HB⟩
  case round =>
    clear HB HO8;obtain ⟨m,hm,rfl,rfl,HO,HB⟩:=hrel;have m0 : (0 : Int)≤(m : Int):=Int.natCast_nonneg _;have HRF:=HO.out
    by_cases hmn : m<n
    · obtain ⟨i,hi⟩ : ∃ i,n - m=i + 1:=⟨n - m - 1,by omega⟩
      have hin : (n : Int) - (m : Int) - 1=(i : Int):=by omega
      have hd : decide ((0 : Int)≤(n : Int) - (m : Int) - 1)=true:=dt_ (by omega)
      rw [hi] at HRF
      have hxl : (List.replicate (i + 1) (0 : Int)++bigs u m).length=n:=by rw [List.length_append,List.length_replicate,bigs_length]; omega
      obtain ⟨g,cp,hv,hg1,hg2,_⟩:=Kd.R_form HRF (by omega)
      rw [hxl] at hv;subst hv;have how:=Kd.own_of_R HRF;rw [hxl] at how
      have hcf:=own_at (xs:=List.replicate (i + 1) (0 : Int)++bigs u m) (k:=.u8) how (i : Int) (by omega) (by omega)
      obtain ⟨hcell,hfroz⟩:=hcf
      have HS:=Lib.hid (fun x=>own_store (xs:=List.replicate (i + 1) (0 : Int)++bigs u m) (k:=.u8) how (i : Int) x)
      rw [Int.toNat_natCast] at hcell hfroz
      have hq0 : 0≤u / 2 ^ (8 * m):=Int.ediv_nonneg h0 (by exact Int.le_of_lt (Int.pow_pos (by decide)))
      have hq1 : u / 2 ^ (8 * m)≤18446744073709551615:=Int.le_trans (Int.ediv_le_self _ h0) h1
      have hnx : Hid (u / 2 ^ (8 * m) / 256=u / 2 ^ (8 * (m + 1))):=Lib.hid (by
        rw [Int.ediv_ediv_of_nonneg (Int.le_of_lt (Int.pow_pos (by decide))),show (8 * (m + 1))=8 * m + 8 by omega,Int.pow_add]; rfl)
      have hbg : Hid (bigs u (m + 1)=(u / 2 ^ (8 * m) % 256) :: bigs u m):=Lib.hid rfl
      have i1 : (i : Int)<(n : Int):=by omega
      have i0 : (0 : Int)≤(i : Int):=Int.natCast_nonneg _;rw [hin] at hd ⊢;have hin:=Lib.hid hin;have hxl:=Lib.hid hxl;have hi:=Lib.hid hi;clear how HRF HO
      generalize rd (List.replicate (i + 1) (0 : Int)++bigs u m) (i : Int)=old at *
      generalize u / 2 ^ (8 * m)=q at *
      go_wp2;go_roundg (n - (m + 1))
      case measure=>omega
      case rel =>
        refine ⟨m + 1,by omega,by go_num,by rw [← hnx.out],Lib.hid ?_,Lib.hid (HB.out.setCell hg1 _)⟩
        refine Kd.R_of_own (enc:=Value.int .u8) (h1:=fun _=>rfl) ?_ (fun _ _=>trivial)
        have h:=(HS.out (q % 256)).1;rw [Int.toNat_natCast,rep_set] at h
        rw [hbg.out,show n - (m + 1)=i by have:=hi.out; omega]
        have hl : (List.replicate i (0 : Int)++(q % 256) :: bigs u m).length=n:=by rw [List.length_append,List.length_replicate,List.length_cons,bigs_length]; have:=hi.out; omega
        rw [hl];exact h
    · have hd : decide ((0 : Int)≤(n : Int) - (m : Int) - 1)=false:=df_ (by omega)
      obtain rfl : m=n:=by omega
      rw [Nat.sub_self] at HRF;have HRF:=Lib.hid HRF;go_wp2;go_ret
      exact ⟨_,rfl,by simpa using HRF.out,HB.out⟩
def one (a : It) : List Int:=if a.k=1∨a.k=2∨a.k=3 then bigs a.n (wid a.k).toNat else if a.k=4 then bigs (Flt.val a.x : Int) 8 else (a.s.size : Int) :: bytesOf a.s
theorem val_bd {x : Nat} (h : x<18446744073709551616) : (Flt.val x : Int)≤18446744073709551615:=by
  unfold Flt.val
  split
  · decide
  · omega
theorem strL_ {P : Program} {ops : Array Oper} {rest : List Oper} {o : Oper} {a : Act} {Q : Exit→Act→World→Prop} {w0 W : World} (base : Nat) (N : Option Tmp) (hd : o.dst=N) (hg : o.guard=none) (s x : Operand) (t u e : TypeId)
    (ho : o.op=.call { callee:=.builtin .append,args:=#[s,x],argTypes:=#[t,u] })
    (ht : P.underlying t=some (.slice e)) (hu : P.underlying u=some .string) (hinfo : (P.info? e).map (fun i=>(i.zero,i.size,i.bytes))=some (some (.int .u8 0),1,1))
    (v : Value) (xs : List Int) (y : ByteArray) (hs : a.eval s=v) (hx : a.eval x=.string y)
    (HO : Kd.R (Kd.int .u8) e W base (fun _=>True) v xs) (HB : Below base w0 W) (hbase : base≤W.heap.size) (hl : xs.length + y.size≤140737488355328)
    (h : ∀ v1 w1,Kd.R (Kd.int .u8) e w1 base (fun _=>True) v1 (xs++bytesOf y)→Below base w0 w1→W.grownBy w1 v.ownBlock→wpList P ops Q rest (a.put N v1) w1) : wpList P ops Q (o :: rest) a W:=by
  refine wpList_plain hg fun K hK=>?_
  subst hd
  have hw : Region.wanted o (yielded ops a.tmps)=true:=by simp [Region.wanted,hg]
  have hh:=step_str (ops:=ops) (Kc:=K) (Q:=Q) base hw s x t u e ho ht hu hinfo v xs y hs hx HO HB hbase hl (fun v1 w1 h1 h2 h3=>hK _ _ (h v1 w1 h1 h2 h3))
  rw [if_pos hw] at hh;exact hh
set_option maxRecDepth 100000 in
theorem One_any (a : It) (w : World) (hm : may a=true) (hx : a.x<18446744073709551616) : Calls Tryd.prog 47 #[a.v] w fun e w'=>∃ v,e=.returned v∧Kd.R (Kd.int .u8) 5 w' w.heap.size (fun _=>True) v (one a)∧Below w.heap.size w w':=by
  have hk:=may_kind hm;obtain ⟨k,an,ax,sx⟩:=a
  simp only at hk hx
  have hv:=val_bd hx;have HB:=Lib.hid (Below.refl w.heap.size w)
  have hk : k=1∨k=2∨k=3∨k=4∨k=5:=by omega
  rcases hk with rfl|rfl|rfl|rfl|rfl
  · rw [may_1] at hm
    simp only [Bool.and_eq_true,decide_eq_true_eq] at hm
    obtain ⟨⟨⟨h0,h1⟩,_⟩,_⟩:=hm
    rw [show one ⟨1,an,ax,sx⟩=bigs an 1 from rfl]
    have BG:=fun w=>Lib.hid (big_any an 1 w h0 (by omega) (by omega) (by omega))
    clear hv hx;go_enter Tryd.func47,Tryd.ntmps47;go_wp2_with (first|(go_at_call 66; refine ((BG _).out).mono ?_; rintro e w' ⟨v,rfl,hR,hb⟩; have HR:=Lib.hid hR; have HB2:=Lib.hid (bp_ (hb0_ HB.out) hb); clear hR hb));go_ret;exact ⟨_,rfl,Kd.R_lower HR.out (bz_ (hb0_ HB.out)),HB2.out⟩
  · rw [may_2] at hm
    simp only [Bool.and_eq_true,decide_eq_true_eq] at hm
    obtain ⟨⟨⟨h0,h1⟩,_⟩,_⟩:=hm
    rw [show one ⟨2,an,ax,sx⟩=bigs an 2 from rfl]
    have BG:=fun w=>Lib.hid (big_any an 2 w h0 (by omega) (by omega) (by omega))
    clear hv hx;go_enter Tryd.func47,Tryd.ntmps47;go_wp2_with (first|(go_at_call 66; refine ((BG _).out).mono ?_; rintro e w' ⟨v,rfl,hR,hb⟩; have HR:=Lib.hid hR; have HB2:=Lib.hid (bp_ (hb0_ HB.out) hb); clear hR hb));go_ret;exact ⟨_,rfl,Kd.R_lower HR.out (bz_ (hb0_ HB.out)),HB2.out⟩
  · rw [may_3] at hm
    simp only [Bool.and_eq_true,decide_eq_true_eq] at hm
    obtain ⟨⟨⟨h0,h1⟩,_⟩,_⟩:=hm
    rw [show one ⟨3,an,ax,sx⟩=bigs an 4 from rfl]
    have BG:=fun w=>Lib.hid (big_any an 4 w h0 (by omega) (by omega) (by omega))
    clear hv hx;go_enter Tryd.func47,Tryd.ntmps47;go_wp2_with (first|(go_at_call 66; refine ((BG _).out).mono ?_; rintro e w' ⟨v,rfl,hR,hb⟩; have HR:=Lib.hid hR; have HB2:=Lib.hid (bp_ (hb0_ HB.out) hb); clear hR hb));go_ret;exact ⟨_,rfl,Kd.R_lower HR.out (bz_ (hb0_ HB.out)),HB2.out⟩
  · rw [show one ⟨4,an,ax,sx⟩=bigs (Flt.val ax : Int) 8 from rfl]
    have BG:=fun w=>Lib.hid (big_any (Flt.val ax : Int) 8 w (Int.natCast_nonneg _) hv (by omega) (by omega))
    clear hv hx hm;go_enter Tryd.func47,Tryd.ntmps47;go_wp2_with (first|(go_at_call 67; refine (rValue_any _ _).mono ?_; rintro e w' ⟨rfl,rfl⟩)|(go_at_call 66; refine ((BG _).out).mono ?_; rintro e w' ⟨v,rfl,hR,hb⟩; have HR:=Lib.hid hR; have HB2:=Lib.hid (bp_ (hb0_ HB.out) hb); clear hR hb));go_ret;exact ⟨_,rfl,Kd.R_lower HR.out (bz_ (hb0_ HB.out)),HB2.out⟩
  · rw [may_5] at hm
    simp only [Bool.and_eq_true,decide_eq_true_eq] at hm
    obtain ⟨_,h1⟩:=hm
    rw [show one ⟨5,an,ax,sx⟩=(sx.size : Int) :: bytesOf sx from rfl]
    have z0 : (0 : Int)≤(sx.size : Int):=Int.natCast_nonneg _;clear hv hx;go_enter Tryd.func47,Tryd.ntmps47
    go_wp2_with (first|((with_reducible refine gate_dst (N:=33) rfl ?_); refine Kd.R_lit (Kd.int .u8) _ 5 ?hg (N:=33) ?hd (xs:=([(sx.size : Int)] : List Int)) (inner:=[.int .u8 ((sx.size : Int))]) (ok:=fun _=>True) (okp:=fun _=>True) ?hr ?hp (fun _ hk=>hk) trivial (Below.refl _ _) (Nat.le_refl _) (by simp) ?_; (case hd=>rfl); (case hg=>rfl); (case hr=>first|(go_simp; done)|(go_simp; rfl)); (case hp=>exact Reps.one (show Kd.M (Kd.int .u8) _ _ _ ((sx.size : Int)) [.int .u8 ((sx.size : Int))] from rfl) (Reps.none _ _)); intro v33 w33 ho hb hg_ hnew_; have HG33:=Lib.hid hg_; clear hg_ hnew_; have HO33:=Lib.hid (Kd.R_lower ho (bz_ (hb0_ HB.out))); have HB:=Lib.hid (bp_ (hb0_ HB.out) hb); clear ho hb; have hc3:=World.grownBy.cell HG33.out (HasIt.alloc w ⟨5,an,ax,sx⟩).2.2.2 (by simp))|((with_reducible refine gate_builtin (b:=.append) (xs:=#[.tmp 33,.tmp 35]) rfl ?_); at_builtin; refine strL_ (w0:=w) w.heap.size (some 36) rfl rfl (.tmp 33) (.tmp 35) 22 9 5 rfl Tryd.underlying22 Tryd.underlying9 info8 v33 [(sx.size : Int)] sx rfl rfl HO33.out (hb0_ HB.out) (bz_ (hb0_ HB.out)) ?aL ?_; (case aL=>simp only [List.length_singleton]; omega); intro v36 w36 ho hb hg; have HG36:=Lib.hid hg; have HO36:=Lib.hid ho; have HB:=Lib.hid hb; clear ho hb hg; skip))
    go_ret;exact ⟨_,rfl,HO36.out,HB.out⟩
end Go.Proofs.YtbmcbhpkefjhbaaDoor.Pac
namespace Go.Proofs.YtbmcbhpkefjhbaaDoor.Pac
open Go.RowKit YtbmcbhpkefjhbaaDoor YtbmcbhpkefjhbaaDoor.Mem YtbmcbhpkefjhbaaDoorW.PrintWords YtbmcbhpkefjhbaaDoorW.PrintLast YtbmcbhpkefjhbaaDoorW.PrintMore
def ItAt (w : World) (p : Addr) (a : It) : Prop:=w.cell? p=some (.int .i64 a.k)∧w.cell? ⟨p.block,p.off + 1,none⟩=some (.int .i64 a.n)∧w.cell? ⟨p.block,p.off + 2,none⟩=some (.float .f64 a.x)∧w.cell? ⟨p.block,p.off + 3,none⟩=some (.string a.s)
def RdT (w : World) (A : Option Addr) (l : List It) : Prop:=∀ j a,l[j]?=some a→∃ ad,A=some ad∧ItAt w (ad.add (j * 4)) a∧a.x<18446744073709551616
theorem ItAt.below {w w' : World} {p : Addr} {a : It} (h : ItAt w p a) (hb : Below w.heap.size w w') : ItAt w' p a :=
  ⟨(hb.cell (wb_ w _ h.1)).trans h.1,(hb.cell (wb_ w _ h.2.1)).trans h.2.1,(hb.cell (wb_ w _ h.2.2.1)).trans h.2.2.1,(hb.cell (wb_ w _ h.2.2.2)).trans h.2.2.2⟩
theorem RdT.below {w w' : World} {A : Option Addr} {l : List It} (h : RdT w A l) (hb : Below w.heap.size w w') : RdT w' A l:=fun j a hj=>by
  obtain ⟨ad,e,h1,h2⟩:=h j a hj;exact ⟨ad,e,h1.below hb,h2⟩
abbrev ones (l : List It) : List Int:=l.flatMap one
theorem take_snoc_it {l : List It} {i : Nat} {a : It} (h : l[i]?=some a) : l.take (i + 1)=l.take i++[a]:=by
  rw [List.take_add_one,h]; rfl
theorem ones_next {l : List It} {i : Nat} {a : It} (h : l[i]?=some a) : ones (l.take (i + 1))=ones (l.take i)++one a:=by
  rw [take_snoc_it h]; unfold ones; rw [List.flatMap_append]; simp
theorem one_length {a : It} (h : may a=true) : (one a).length≤256:=by
  have hk:=may_kind h;obtain ⟨k,n,x,s⟩:=a
  simp only at hk
  have : k=1∨k=2∨k=3∨k=4∨k=5:=by omega
  rcases this with rfl|rfl|rfl|rfl|rfl
  · rw [show one ⟨1,n,x,s⟩=bigs n 1 from rfl,bigs_length]; decide
  · rw [show one ⟨2,n,x,s⟩=bigs n 2 from rfl,bigs_length]; decide
  · rw [show one ⟨3,n,x,s⟩=bigs n 4 from rfl,bigs_length]; decide
  · rw [show one ⟨4,n,x,s⟩=bigs (Flt.val x : Int) 8 from rfl,bigs_length]; decide
  · rw [may_5] at h
    simp only [Bool.and_eq_true,decide_eq_true_eq] at h
    rw [show one ⟨5,n,x,s⟩=(s.size : Int) :: bytesOf s from rfl,List.length_cons,bytesOf_length]
    omega
theorem ones_length {l : List It} (h : ∀ a ∈ l,may a=true) : (ones l).length≤256 * l.length:=by
  induction l with
  | nil=>simp [ones]
  | cons a l ih =>
    have h1:=one_length (h a (List.mem_cons_self))
    have h2:=ih (fun b hb=>h b (List.mem_cons_of_mem _ hb))
    unfold ones at h2 ⊢
    rw [List.flatMap_cons,List.length_append,List.length_cons];omega
def PutPost (l : List It) (w : World) (e : Ending) (w' : World) : Prop:=∃ v,e=.returned (.tuple #[v,.int .i64 (erOf (l.all may))])∧Kd.R (Kd.int .u8) 5 w' w.heap.size (fun _=>True) v (if l.all may=true then ones l else [])∧Below w.heap.size w w'
def PutA13.T : Bool × List (List Nat × List Nat):=(true,[([],[]),([],[]),([1],[1]),([2],[2]),([3],[3]),([4],[4]),([0,5],[0,5]),([],[]),([7],[7]),([6,8,6],[6,8]),([9,9,0,1,2,3,4,5,6,7,8,9],[0,9])])
def PutA13.B : List Nat:=[0,0,2,6,14,30,63,0,128,511,1023]
theorem PutA13.tab : rtab .any (opsOf Tryd.f27 13)=PutA13.T:=by kernel_rfl
theorem PutA13.bits : waitsOk PutA13.T.2 PutA13.B=true:=by kernel_rfl
def PutA9.T : Bool × List (List Nat × List Nat):=(true,[([],[]),([],[]),([1],[1]),([2],[2]),([],[]),([4],[4]),([5],[5]),([0,3,6,6],[0,3,6]),([7,7,0,1,2,3,4,5,6,7],[0,7])])
def PutA9.B : List Nat:=[0,0,2,6,0,16,48,127,255]
theorem PutA9.tab : rtab .any (opsOf Tryd.f27 9)=PutA9.T:=by kernel_rfl
theorem PutA9.bits : waitsOk PutA9.T.2 PutA9.B=true:=by kernel_rfl
set_option maxRecDepth 100000 in
set_option maxHeartbeats 1000000 in
theorem Put_any (A : Option Addr) (c : Nat) (l : List It) (w : World) (hr : RdT w A l) (hl : l.length≤1000) : Calls Tryd.prog 27 #[.slice A l.length c] w fun e w'=>PutPost l w e w':=by
  have HB:=Lib.hid (Below.refl w.heap.size w);have HR:=Lib.hid hr;clear hr;go_enter Tryd.func27,Tryd.ntmps27
  have hsf : ∀ (a : Addr) (n : Nat) (w : World),(store a (.float .f64 n)).run Tryd.prog w=stored Tryd.prog w a (.float .f64 n) .plain:=fun a n w=>run_store _ w a _ _ rfl
  go_wp2
  go_loopg [4,10] l.length (fun k v4 v10 wr=>∃ (i : Nat) (vv : Value),i≤l.length∧k=l.length - i∧vv=v4∧v10=.int .i64 (i : Int)∧Hid (∀ a ∈ l.take i,may a=true)∧Hid (Kd.R (Kd.int .u8) 5 wr w.heap.size (fun _=>True) v4 (ones (l.take i)))∧Hid (Below w.heap.size w wr))
  case atStart=>exact ⟨0,_,Nat.zero_le _,rfl,rfl,rfl,Lib.hid (fun a ha=>by cases ha),Lib.hid (Kd.R_nil _ _ _ _ _),HB⟩
  case round =>
    clear HB;obtain ⟨i,vv,hi,rfl,rfl,rfl,HM,HO,HB⟩:=hrel;have i0 : (0 : Int)≤(i : Int):=Int.natCast_nonneg _
    by_cases hlt : i<l.length
    · have hd : decide (i<l.length)=true:=dt_ hlt
      have i1 : (i : Int)<(l.length : Int):=by omega
      obtain ⟨a,ha⟩ : ∃ a,l[i]?=some a:=⟨_,List.getElem?_eq_getElem hlt⟩
      obtain ⟨ad,rfl,hat,hax⟩:=HR.out i a ha;obtain ⟨x0,x1,x2,x3⟩:=hat.below HB.out;have HN:=Lib.hid (ones_next ha);have HT:=Lib.hid (take_snoc_it ha);have HA:=Lib.hid ha
      have HLN : Hid ((ones (l.take i)).length≤256000):=Lib.hid (by
        have:=ones_length HM.out;rw [List.length_take] at this
        omega)
      have CK:=Lib.hid (fun w=>Check_any a w)
      clear ha hat;go_wp2_with fail
      obtain ⟨wa,hwa⟩ : ∃ wa,wa=wr.alloc a.o:=⟨_,rfl⟩
      have HIT : Hid (HasIt wa wr.heap.size a):=Lib.hid (by rw [hwa]; exact HasIt.alloc wr a)
      have HBa : Hid (Below w.heap.size w wa):=Lib.hid (by rw [hwa]; exact ba_ HB.out _)
      have HOa : Hid (Kd.R (Kd.int .u8) 5 wa w.heap.size (fun _=>True) vv (ones (l.take i))):=Lib.hid (by rw [hwa]; exact ra_ HO.out _)
      have HNe : Hid (∀ k,vv.ownBlock=some k→k<wr.heap.size):=Lib.hid (Kd.R_lt HO.out)
      rw [show (wr.alloc (Obj.cells #[Value.int IntKind.i64 a.k,Value.int IntKind.i64 a.n,Value.float FloatKind.f64 a.x,Value.string a.s] 51))=wa from hwa.symm]
      clear hwa x0 x1 x2 x3 HO HB;refine (CK.out wa).mono ?_;rintro e w2 ⟨rfl,hb⟩;have HIT2:=Lib.hid (HIT.out.below hb);have HB2 : Hid (Below w.heap.size w w2):=Lib.hid (bp_ HBa.out hb)
      have HO2 : Hid (Kd.R (Kd.int .u8) 5 w2 w.heap.size (fun _=>True) vv (ones (l.take i))):=Lib.hid (Kd.R_below HOa.out hb)
      clear hb HIT HBa HOa CK
      generalize wr.heap.size=g at HIT2 HNe ⊢
      cases hm : may a with
      | false =>
        have hall : Hid (l.all may=false):=Lib.hid (by
          rw [List.all_eq_false]
          exact ⟨a,List.mem_of_getElem? HA.out,by rw [hm]; decide⟩)
        clear hm
        rw [show erOf false=1 from rfl]
        go_wp2;go_ret2
        refine ⟨_,by rw [hall.out]; rfl,?_,HB2.out⟩
        rw [hall.out,if_neg (by decide)]
        exact Kd.R_nil _ _ _ _ _
      | true =>
        have hk:=may_kind hm
        rw [show erOf true=0 from rfl]
        have HM2 : Hid (∀ b ∈ l.take (i + 1),may b=true):=Lib.hid (by
          rw [HT.out];intro b hb
          rcases List.mem_append.1 hb with h|h
          · exact HM.out b h
          · rw [List.mem_singleton.1 h]; exact hm)
        by_cases h4 : a.k=4
        · have hone : one a=bigs (Flt.val a.x : Int) 8:=by
            unfold one
            rw [if_neg (by omega),if_pos h4]
          rw [hone] at HN;obtain ⟨s0,s1,s2,s3⟩:=HIT2.out;rw [h4] at s0;clear hone hk h4 hm
          go_wp2_with (first|(go_at_call 51; refine (Value_any _ _).mono ?_; rintro e w' ⟨rfl,rfl⟩)|(go_at_call 49; refine (number_any w _ vv _ (Flt.val a.x : Int) 8 (by omega) (by have:=HLN.out; omega) HO2.out HB2.out).mono ?_; rintro e w3 ⟨v3,rfl,hR,hb⟩; have HO3:=Lib.hid hR; have HB3:=Lib.hid hb; clear hR hb))
          go_roundg (l.length - (i + 1))
          case measure=>omega
          case rel=>exact ⟨i + 1,_,by omega,rfl,rfl,by go_num,HM2,Lib.hid (by rw [HN.out]; exact HO3.out),HB3⟩
        by_cases h5 : a.k=5
        · have hone : one a=(a.s.size : Int) :: bytesOf a.s:=by
            unfold one
            rw [if_neg (by omega),if_neg (by omega)]
          rw [hone] at HN
          have hsz : a.s.size≤255:=by
            obtain ⟨k,n,x,s⟩:=a
            simp only at h5
            subst h5;rw [may_5] at hm
            simp only [Bool.and_eq_true,decide_eq_true_eq] at hm
            simp only
            omega
          have hwr : IntKind.u8.wrap (a.s.size : Int)=(a.s.size : Int):=by rw [IntKind.wrap_u8]; omega
          obtain ⟨s0,s1,s2,s3⟩:=HIT2.out;rw [h5] at s0;have z0 : (0 : Int)≤(a.s.size : Int):=Int.natCast_nonneg _
          have z1 : (a.s.size : Int)≤255:=by omega
          clear hone hk h4 h5 hm;go_wp2_with fail;have HBo:=Lib.hid (be_ (Below.refl w2.heap.size w2))
          have HSx : Hid (∀ wx,Below w2.heap.size w2 wx→wx.cell? ⟨g,3,none⟩=some (.string a.s)):=Lib.hid (fun wx h=>(HIT2.out.below h).2.2.2)
          have HG : Hid (g<w2.heap.size):=Lib.hid (wb_ w2 _ s3);clear s0 s1 s2 s3
          generalize a.s=sx at *
          refine start_ (n:=11) (S:=fun wx=>wx.cell? ⟨g,3,none⟩=some (.string sx)) (ds:=[9]) #[false,false,false,false,false,false,false,false,false,false,false] (by kernel_rfl) rfl rfl (HSx.out _ HBo.out) (fun hHeld=>?_)
          refine with_tabW PutA13.tab PutA13.bits (fun HT_ HW_=>?_)
          generalize w2.drew=wD at HBo hHeld ⊢
          refine pu_ (i:=0) (N:=(some 39)) (v:=?_) (a':=?_) #[true,false,false,false,false,false,false,false,false,false,false] rfl rfl HT_.out (by kernel_rfl) (fun _ _ _ h=>h) (by rfl) ?_ ?_ ?_;rotate_left;(intro w';go_simp;with_reducible rfl);rotate_left;(simp only [Act.put,u1_,u2_,u3_,i64_w,i32_w];rfl)
          refine pu_ (i:=1) (N:=(some 40)) (v:=?_) (a':=?_) #[true,true,false,false,false,false,false,false,false,false,false] rfl rfl HT_.out (by kernel_rfl) (fun _ _ _ h=>h) (by rfl) ?_ ?_ ?_;rotate_left;(intro w';go_simp;with_reducible rfl);rotate_left;(simp only [Act.put,u1_,u2_,u3_,i64_w,i32_w];rfl)
          refine ta_ (i:=2) (N:=(some 41)) (v:=?_) (a':=?_) #[true,true,true,false,false,false,false,false,false,false,false] rfl rfl HT_.out HW_.out (by kernel_rfl) (fun _ _ _ h=>h) (by rfl) ?_ hHeld ?_ ?_;rotate_left;(rintro w' s3;go_simp;with_reducible rfl);rotate_left;(simp only [Act.put,u1_,u2_,u3_,i64_w,i32_w];rfl)
          refine pu_ (i:=3) (N:=(some 42)) (v:=?_) (a':=?_) #[true,true,true,true,false,false,false,false,false,false,false] rfl rfl HT_.out (by kernel_rfl) (fun _ _ _ h=>h) (by rfl) ?_ ?_ ?_;rotate_left;(intro w';go_simp;with_reducible rfl);rotate_left;(simp only [Act.put,u1_,u2_,u3_,i64_w,i32_w];rfl)
          refine pu_ (i:=4) (N:=(some 43)) (v:=?_) (a':=?_) #[true,true,true,true,true,false,false,false,false,false,false] rfl rfl HT_.out (by kernel_rfl) (fun _ _ _ h=>h) (by rfl) ?_ ?_ ?_;rotate_left;(intro w';go_simp;with_reducible rfl);rotate_left;(simp only [Act.put,u1_,u2_,u3_,i64_w,i32_w];rfl)
          refine pu_ (i:=7) (N:=(some 46)) (v:=?_) (a':=?_) #[true,true,true,true,true,false,false,true,false,false,false] rfl rfl HT_.out (by kernel_rfl) (fun _ _ _ h=>h) (by rfl) ?_ ?_ ?_;rotate_left;(intro w';go_simp;with_reducible rfl);rotate_left;(simp only [Act.put,u1_,u2_,u3_,i64_w,i32_w];rfl)
          refine ta_ (i:=8) (N:=(some 47)) (v:=?_) (a':=?_) #[true,true,true,true,true,false,false,true,true,false,false] rfl rfl HT_.out HW_.out (by kernel_rfl) (fun _ _ _ h=>h) (by rfl) ?_ hHeld ?_ ?_;rotate_left;(rintro w' s3;go_simp;with_reducible rfl);rotate_left;(simp only [Act.put,u1_,u2_,u3_,i64_w,i32_w];rfl)
          refine one_ (i:=5) (N:=(some 44)) #[true,true,true,true,true,true,false,true,true,false,false] rfl rfl (one_of HT_.out (by kernel_rfl)) (by decide) (fun K hK=>?_)
          refine value_ (w1:=?_) (v:=?_) (by rfl) rfl ?_ ?_
          rotate_left 2
          · go_simp
            constructor
            · rfl
            · rfl
          refine hK.out _ _ (HSx.out _ (ba_ HBo.out _)) (fun hHeld=>?_)
          clear hK K
          refine norm_ (a':=?_) ?_ ?_;rotate_left;(show Act.put _ (some 44) _=_;simp only [Act.put,u1_,u2_,u3_,i64_w,i32_w];rfl)
          refine one_ (i:=6) (N:=(some 45)) #[true,true,true,true,true,true,true,true,true,false,false] rfl rfl (one_of HT_.out (by kernel_rfl)) (by decide) (fun K hK=>?_)
          refine Kd.R_append_step (Kd.int .u8) (w0:=w) w.heap.size (by rfl) (.tmp 39) (.tmp 44) 22 5 (.int .u8 0) 1 (by rfl) Tryd.underlying22 info8 rfl (by decide) (by omega) vv (ones (l.take i)) (sx.size : Int) [.int .u8 (sx.size : Int)] (fun _=>True) (fun _=>False) (by rfl) (by rfl) rfl (fun _ h=>h.elim) (fun _ _=>trivial) (Kd.R_below HO2.out HBo.out) (bp_ HB2.out HBo.out) (bz_ (bp_ HB2.out HBo.out)) (by have:=HLN.out; omega) ?_
          intro v45 w45 ho hb hgr hat;have HO45:=Lib.hid ho;have HB45:=Lib.hid hb
          have hS45 : w45.cell? ⟨g,3,none⟩=some (.string sx):=(cell_heap (hgr.block g (Nat.lt_of_lt_of_le HG.out (bz_ HBo.out)) (fun he=>absurd (HNe.out g he.symm) (Nat.lt_irrefl _)))).trans (HSx.out _ HBo.out)
          clear ho hb hgr hat
          refine hK.out _ _ (hS45) (fun hHeld=>?_)
          clear hK K
          refine norm_ (a':=?_) ?_ ?_;rotate_left;(show Act.put _ (some 45) _=_;simp only [Act.put,u1_,u2_,u3_,i64_w,i32_w];rfl)
          refine last_ (i:=9) (N:=(some 48)) #[true,true,true,true,true,true,true,true,true,true,false] rfl rfl (one_of HT_.out (by kernel_rfl)) (by decide) (fun K hK=>?_)
          refine step_str (w0:=w) w.heap.size (by rfl) (.tmp 45) (.tmp 47) 22 9 5 (by rfl) Tryd.underlying22 Tryd.underlying9 info8 v45 (ones (l.take i)++[(sx.size : Int)]) sx (by rfl) (by rfl) HO45.out HB45.out (bz_ HB45.out) (by have:=HLN.out; rw [List.length_append,List.length_singleton]; omega) ?_
          intro v48 w48 ho hb hgr;have HO48:=Lib.hid ho;have HB48:=Lib.hid hb;clear ho hb hgr;refine hK.out _ _ ?_;clear hK K
          refine norm_ (a':=?_) ?_ ?_;rotate_left;(show Act.put _ (some 48) _=_;simp only [Act.put,u1_,u2_,u3_,i64_w,i32_w];rfl)
          refine pu_ (i:=10) (N:=(some 4)) (v:=?_) (a':=?_) #[true,true,true,true,true,true,true,true,true,true,true] rfl rfl HT_.out (by kernel_rfl) (fun _ _ _ h=>h) (by rfl) ?_ ?_ ?_;rotate_left;(intro w';go_simp;with_reducible rfl);rotate_left;(simp only [Act.put,u1_,u2_,u3_,i64_w,i32_w];rfl)
          refine done_ (done_of HT_.out (by kernel_rfl)) ?_;go_wp2_with fail;go_roundg (l.length - (i + 1))
          case measure=>omega
          case rel=>exact ⟨i + 1,_,by omega,rfl,rfl,by go_num,HM2,Lib.hid (by rw [HN.out,show ones (l.take i)++(sx.size : Int) :: bytesOf sx=ones (l.take i)++[(sx.size : Int)]++bytesOf sx by simp]; exact HO48.out),HB48⟩
        · have g4 : (a.k == 4)=false:=by rw [beq_eq_false_iff_ne]; exact h4
          have g5 : (a.k == 5)=false:=by rw [beq_eq_false_iff_ne]; exact h5
          obtain ⟨m,hm8,hwm,hone,z0,z1⟩ : ∃ m : Nat,m≤8∧wid a.k=(m : Int)∧one a=bigs a.n m∧0≤a.n∧a.n≤2147483647:=by
            obtain ⟨k,n,x,s⟩:=a
            simp only at hk h4 h5
            have : k=1∨k=2∨k=3:=by omega
            rcases this with rfl|rfl|rfl
            · rw [may_1] at hm
              simp only [Bool.and_eq_true,decide_eq_true_eq] at hm
              exact ⟨1,by omega,rfl,rfl,by simp only; omega,by simp only; omega⟩
            · rw [may_2] at hm
              simp only [Bool.and_eq_true,decide_eq_true_eq] at hm
              exact ⟨2,by omega,rfl,rfl,by simp only; omega,by simp only; omega⟩
            · rw [may_3] at hm
              simp only [Bool.and_eq_true,decide_eq_true_eq] at hm
              exact ⟨4,by omega,rfl,rfl,by simp only; omega,by simp only; omega⟩
          rw [hone] at HN
          have WD:=Lib.hid (fun w=>width_any a.k w)
          rw [hwm] at WD;clear hm h4 h5 hk hwm hone;obtain ⟨s0,s1,s2,s3⟩:=HIT2.out
          have hwr : IntKind.u64.wrap a.n=a.n:=by rw [IntKind.wrap_u64]; omega
          go_wp2_with fail;clear s0 s1 s2 s3;have HBo:=Lib.hid (be_ (Below.refl w2.heap.size w2))
          have HSx : Hid (∀ wx,Below w2.heap.size w2 wx→HasIt wx g a):=Lib.hid (fun wx h=>HIT2.out.below h)
          refine start_ (n:=9) (S:=fun wx=>HasIt wx g a) (ds:=[7]) #[false,false,false,false,false,false,false,false,false] (by kernel_rfl) rfl rfl (HSx.out _ HBo.out) (fun hHeld=>?_)
          refine with_tabW PutA9.tab PutA9.bits (fun HT_ HW_=>?_)
          generalize w2.drew=wD at HBo hHeld ⊢
          refine pu_ (i:=0) (N:=(some 21)) (v:=?_) (a':=?_) #[true,false,false,false,false,false,false,false,false] rfl rfl HT_.out (by kernel_rfl) (fun _ _ _ h=>h) (by rfl) ?_ ?_ ?_;rotate_left;(intro w';go_simp;with_reducible rfl);rotate_left;(simp only [Act.put,u1_,u2_,u3_,i64_w,i32_w];rfl)
          refine pu_ (i:=1) (N:=(some 22)) (v:=?_) (a':=?_) #[true,true,false,false,false,false,false,false,false] rfl rfl HT_.out (by kernel_rfl) (fun _ _ _ h=>h) (by rfl) ?_ ?_ ?_;rotate_left;(intro w';go_simp;with_reducible rfl);rotate_left;(simp only [Act.put,u1_,u2_,u3_,i64_w,i32_w];rfl)
          refine ta_ (i:=2) (N:=(some 23)) (v:=?_) (a':=?_) #[true,true,true,false,false,false,false,false,false] rfl rfl HT_.out HW_.out (by kernel_rfl) (fun _ _ _ h=>h) (by rfl) ?_ hHeld ?_ ?_;rotate_left;(rintro w' ⟨s0,s1,s2,s3⟩;go_simp;with_reducible rfl);rotate_left;(simp only [Act.put,u1_,u2_,u3_,i64_w,i32_w];rfl)
          refine pu_ (i:=3) (N:=(some 24)) (v:=?_) (a':=?_) #[true,true,true,true,false,false,false,false,false] rfl rfl HT_.out (by kernel_rfl) (fun _ _ _ h=>h) (by rfl) ?_ ?_ ?_;rotate_left;(intro w';go_simp;with_reducible rfl);rotate_left;(simp only [Act.put,u1_,u2_,u3_,i64_w,i32_w];rfl)
          refine pu_ (i:=4) (N:=(some 25)) (v:=?_) (a':=?_) #[true,true,true,true,true,false,false,false,false] rfl rfl HT_.out (by kernel_rfl) (fun _ _ _ h=>h) (by rfl) ?_ ?_ ?_;rotate_left;(intro w';go_simp;with_reducible rfl);rotate_left;(simp only [Act.put,u1_,u2_,u3_,i64_w,i32_w];rfl)
          refine ta_ (i:=5) (N:=(some 26)) (v:=?_) (a':=?_) #[true,true,true,true,true,true,false,false,false] rfl rfl HT_.out HW_.out (by kernel_rfl) (fun _ _ _ h=>h) (by rfl) ?_ hHeld ?_ ?_;rotate_left;(rintro w' ⟨s0,s1,s2,s3⟩;go_simp;with_reducible rfl);rotate_left;(simp only [Act.put,u1_,u2_,u3_,i64_w,i32_w];rfl)
          refine one_ (i:=6) (N:=(some 27)) #[true,true,true,true,true,true,true,false,false] rfl rfl (one_of HT_.out (by kernel_rfl)) (by decide) (fun K hK=>?_)
          refine goes_ Tryd.func52 (by kernel_rfl) rfl #[.int .i64 a.k] (by rfl) rfl rfl (by (try simp only [List.map_toArray,List.map_cons,List.map_nil]); first|done|rfl) ?_
          refine (WD.out _).mono ?_;rintro e w' ⟨rfl,rfl⟩;refine ⟨_,rfl,?_⟩
          refine hK.out _ _ (HSx.out _ HBo.out) (fun hHeld=>?_)
          clear hK K
          refine norm_ (a':=?_) ?_ ?_;rotate_left;(show Act.put _ (some 27) _=_;simp only [Act.put,u1_,u2_,u3_,i64_w,i32_w];rfl)
          refine last_ (i:=7) (N:=(some 28)) #[true,true,true,true,true,true,true,true,false] rfl rfl (one_of HT_.out (by kernel_rfl)) (by decide) (fun K hK=>?_)
          refine goes_ Tryd.func49 (by kernel_rfl) rfl #[vv,.int .u64 a.n,.int .i64 (m : Int)] (by rfl) rfl rfl (by (try simp only [List.map_toArray,List.map_cons,List.map_nil]); first|done|rfl) ?_
          refine (number_any w _ vv _ a.n m hm8 (by have:=HLN.out; omega) (Kd.R_below HO2.out HBo.out) (bp_ HB2.out HBo.out)).mono ?_
          rintro e w3 ⟨vn,rfl,hR,hb'⟩;refine ⟨_,rfl,?_⟩;have HO3:=Lib.hid hR;have HB3:=Lib.hid hb';clear hR hb';refine hK.out _ _ ?_;clear hK K
          refine norm_ (a':=?_) ?_ ?_;rotate_left;(show Act.put _ (some 28) _=_;simp only [Act.put,u1_,u2_,u3_,i64_w,i32_w];rfl)
          refine pu_ (i:=8) (N:=(some 4)) (v:=?_) (a':=?_) #[true,true,true,true,true,true,true,true,true] rfl rfl HT_.out (by kernel_rfl) (fun _ _ _ h=>h) (by rfl) ?_ ?_ ?_;rotate_left;(intro w';go_simp;with_reducible rfl);rotate_left;(simp only [Act.put,u1_,u2_,u3_,i64_w,i32_w];rfl)
          refine done_ (done_of HT_.out (by kernel_rfl)) ?_;go_wp2_with fail;go_roundg (l.length - (i + 1))
          case measure=>omega
          case rel=>exact ⟨i + 1,_,by omega,rfl,rfl,by go_num,HM2,Lib.hid (by rw [HN.out]; exact HO3.out),HB3⟩
    · have hd : decide (i<l.length)=false:=df_ hlt
      obtain rfl : l.length=i:=by omega
      go_wp2;go_ret2
      have hall : l.all may=true:=by
        rw [List.all_eq_true];intro a ha
        exact HM.out a (by rw [List.take_length]; exact ha)
      refine ⟨_,by rw [hall]; rfl,?_,HB.out⟩
      rw [if_pos hall];have h:=HO.out;rw [List.take_length] at h;exact h
end Go.Proofs.YtbmcbhpkefjhbaaDoor.Pac
namespace Go.Proofs.YtbmcbhpkefjhbaaDoor.Pac
open Go.RowKit YtbmcbhpkefjhbaaDoor YtbmcbhpkefjhbaaDoor.Mem YtbmcbhpkefjhbaaDoorW.PrintWords YtbmcbhpkefjhbaaDoorW.PrintLast YtbmcbhpkefjhbaaDoorW.PrintMore
def RPutPost (l : List It) (w : World) (e : Ending) (w' : World) : Prop:=∃ v,e=.returned (.tuple #[v,.bool (l.all may)])∧Kd.R (Kd.int .u8) 5 w' w.heap.size (fun _=>True) v (if l.all may=true then ones l else [])∧Below w.heap.size w w'
set_option maxRecDepth 100000 in
set_option maxHeartbeats 1000000 in
theorem rPut_any (A : Option Addr) (c : Nat) (l : List It) (w : World) (hr : RdT w A l) (hl : l.length≤1000) : Calls Tryd.prog 35 #[.slice A l.length c] w fun e w'=>RPutPost l w e w':=by
  have HB:=Lib.hid (Below.refl w.heap.size w);have HR:=Lib.hid hr;clear hr;go_enter Tryd.func35,Tryd.ntmps35
  go_wp2_with (first|((with_reducible refine gate_dst (N:=6) rfl ?_); refine Kd.R_lit (Kd.int .u8) _ 5 ?hg (N:=6) ?hd (xs:=([] : List Int)) (inner:=[]) (ok:=fun _=>True) (okp:=fun _=>True) ?hr ?hp (fun _ hk=>hk) trivial (Below.refl _ _) (Nat.le_refl _) (by simp) ?_; (case hd=>rfl); (case hg=>rfl); (case hr=>first|(go_simp; done)|(go_simp; rfl)); (case hp=>exact Reps.none _ _); intro v6 w6 ho hb hg_ hnew_; clear hg_ hnew_; have HO6:=Lib.hid (Kd.R_lower ho (bz_ (hb0_ HB.out))); have HB:=Lib.hid (bp_ (hb0_ HB.out) hb); clear ho hb))
  go_loopg [4,5] l.length (fun k v4 v5 wr=>∃ (i : Nat) (vv : Value),i≤l.length∧k=l.length - i∧vv=v4∧v5=.int .i64 (i : Int)∧Hid (∀ a ∈ l.take i,may a=true)∧Hid (Kd.R (Kd.int .u8) 5 wr w.heap.size (fun _=>True) v4 (ones (l.take i)))∧Hid (Below w.heap.size w wr))
  case atStart=>exact ⟨0,_,Nat.zero_le _,rfl,rfl,rfl,Lib.hid (fun a ha=>by cases ha),HO6,HB⟩
  case round =>
    clear HB HO6;obtain ⟨i,vv,hi,rfl,rfl,rfl,HM,HO,HB⟩:=hrel;have i0 : (0 : Int)≤(i : Int):=Int.natCast_nonneg _
    by_cases hlt : i<l.length
    · have hd : decide (i<l.length)=true:=dt_ hlt
      have i1 : (i : Int)<(l.length : Int):=by omega
      obtain ⟨a,ha⟩ : ∃ a,l[i]?=some a:=⟨_,List.getElem?_eq_getElem hlt⟩
      obtain ⟨ad,rfl,hat,hax⟩:=HR.out i a ha;obtain ⟨x0,x1,x2,x3⟩:=hat.below HB.out;have HT:=Lib.hid (take_snoc_it ha);have HN:=Lib.hid (ones_next ha);have HA:=Lib.hid ha
      have HLN : Hid ((ones (l.take i)).length≤256000):=Lib.hid (by
        have:=ones_length HM.out;rw [List.length_take] at this
        omega)
      have MY:=Lib.hid (fun w=>May_any a w)
      have HAX:=Lib.hid hax;have HAT:=Lib.hid hat;clear ha hat hax;go_wp2_with fail;refine (MY.out wr).mono ?_;rintro e w2 ⟨rfl,hb⟩;have HB2 : Hid (Below w.heap.size w w2):=Lib.hid (bp_ HB.out hb)
      have HO2 : Hid (Kd.R (Kd.int .u8) 5 w2 w.heap.size (fun _=>True) vv (ones (l.take i))):=Lib.hid (Kd.R_below HO.out hb)
      clear hb MY x0 x1 x2 x3 HB HO;have HB:=HB2;clear HB2
      cases hm : may a with
      | false =>
        have hall : Hid (l.all may=false):=Lib.hid (by
          rw [List.all_eq_false]
          exact ⟨a,List.mem_of_getElem? HA.out,by rw [hm]; decide⟩)
        clear hm;go_wp2;go_ret2
        refine ⟨_,by rw [hall.out]; rfl,?_,HB.out⟩
        rw [hall.out,if_neg (by decide)]
        exact Kd.R_nil _ _ _ _ _
      | true =>
        have HM2 : Hid (∀ b ∈ l.take (i + 1),may b=true):=Lib.hid (by
          rw [HT.out];intro b hb
          rcases List.mem_append.1 hb with h|h
          · exact HM.out b h
          · rw [List.mem_singleton.1 h]; exact hm)
        have HL1:=Lib.hid (one_length hm)
        have ON:=Lib.hid (fun w=>One_any a w hm HAX.out)
        obtain ⟨x0,x1,x2,x3⟩:=HAT.out.below HB.out;clear hm
        go_wp2_with (first|(go_at_call 47; refine (ON.out _).mono ?_; rintro e w3 ⟨v3,rfl,hR,hb⟩; obtain ⟨A3,c3,rfl,hc3,hr3⟩:=Kd.R_reads hR; have HR3:=Lib.hid hr3; have HO3:=Lib.hid (Kd.R_below HO2.out hb); have HB:=Lib.hid (bp_ HB.out hb); clear hR hb hr3)|((with_reducible refine gate_builtin (b:=.append) (xs:=#[.tmp 19,.tmp 24]) rfl ?_); at_builtin; refine Kd.R_append_rows (Kd.int .u8) (w0:=w) w.heap.size rfl (.tmp 19) (.tmp 24) 22 5 (.int .u8 0) 1 rfl Tryd.underlying22 info8 rfl (by decide) (by omega) vv (ones (l.take i)) (one a) _ _ _ (fun _=>True) (fun _=>False) rfl rfl (by (with_reducible repeat (first|apply ra_|apply rn_|apply re_)); exact HO3.out) HR3.out (fun _ _ h=>h) (fun _ h=>h.elim) (fun _ _=>trivial) (hb0_ HB.out) (bz_ (hb0_ HB.out)) ?aL ?_; (case aL=>have:=HLN.out; have:=HL1.out; omega); intro v25 w25 ho hb hg hat; clear hg hat; skip; have HO25:=Lib.hid ho; have HB:=Lib.hid hb; clear ho hb))
        go_roundg (l.length - (i + 1))
        case measure=>omega
        case rel=>exact ⟨i + 1,_,by omega,rfl,rfl,by go_num,HM2,Lib.hid (by rw [HN.out]; exact HO25.out),HB⟩
    · have hd : decide (i<l.length)=false:=df_ hlt
      obtain rfl : l.length=i:=by omega
      go_wp2;go_ret2
      have hall : l.all may=true:=by
        rw [List.all_eq_true];intro a ha
        exact HM.out a (by rw [List.take_length]; exact ha)
      refine ⟨_,by rw [hall]; rfl,?_,HB.out⟩
      rw [if_pos hall];have h:=HO.out;rw [List.take_length] at h;exact h
end Go.Proofs.YtbmcbhpkefjhbaaDoor.Pac
