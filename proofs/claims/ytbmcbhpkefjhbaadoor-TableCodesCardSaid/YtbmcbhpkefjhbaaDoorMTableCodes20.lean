/- by wip/prune.py -/
import Derived.Test.YtbmcbhpkefjhbaaDoorMTableCodes8
import Derived.LoopIn
import Derived.LoopNIn
import Derived.OwnWalkIn
import Derived.RangeFuncBound
import Derived.RangeFuncCalls
import Derived.RangeFuncLeaves
import Derived.RangeFuncNested
import Derived.Shelf.Abstract
import Derived.Shelf.RegionOpen
import Derived.TacticsInMore
import Derived.WalkKit
import Derived.Test.YtbmcbhpkefjhbaaDoorMTableCodes9
import Derived.Test.YtbmcbhpkefjhbaaDoorMTableCodes10
import Derived.Test.YtbmcbhpkefjhbaaDoorMTableCodes11
import Derived.Test.YtbmcbhpkefjhbaaDoorMTableCodes17
import Derived.Test.YtbmcbhpkefjhbaaDoorMTableCodes19
set_option linter.unusedSimpArgs false
set_option linter.unusedVariables false
namespace Go.Proofs.YtbmcbhpkefjhbaaDoor.P
open Go.RowKit Go.Shelf YtbmcbhpkefjhbaaDoor YtbmcbhpkefjhbaaDoorW.PrintWords YtbmcbhpkefjhbaaDoorW.PrintLast YtbmcbhpkefjhbaaDoorW.PrintMore
attribute [local go_sem] Oper.semAt_some
attribute [local go_sem] min2_int min_two
theorem upon_round {m l : Nat} {P : Program} {o : Oper} {a : Act} {next next' : Act→World→Prop} {Q : Exit→Act→World→Prop} (hn : ∀ a w,next a w→next' a w) : ∀ (r : Result Next),o.upon P a next Q r→o.uponIn (Fence.wide.inRound l) m P a next' Q r:=by
  intro r h
  unfold Oper.upon at h
  unfold Oper.uponIn
  split at h
  · exact hn _ _ h
  · exact hn _ _ h
  · exact hn _ _ h
  · refine ⟨fun hd=>(by cases hd),?_⟩
    refine CallsIn.inRound l (callsIn_wide.2 (h.mono ?_));rintro e w'' he
    cases e with
    | returned v=>exact hn _ _ he
    | panicked c=>exact he
    | outgrown=>exact he
  · refine ⟨fun hd=>(by cases hd),fun c cs _=>?_⟩
    obtain ⟨v,w',r,s⟩:=h c cs;exact ⟨v,w',hn _ _ r,stepsIn_wide.2 s⟩
  · exact h
  · exact h.elim
theorem wpOps_round {m l : Nat} {P : Program} {ops : Array Oper} {Q : Exit→Act→World→Prop} (hQ : LetsOut Q→False) (hd : ∀ (i : Nat) (o : Oper) (c : Call),ops[i]?=some o→o.op≠.defer c) : ∀ (is : List Nat) (a : Act) (w : World),wpOps P ops Q is a w→wpOpsIn (Fence.wide.inRound l) m P ops Q is a w:=by
  intro is
  induction is with
  | nil=>exact fun a w h=>h
  | cons i rest ih =>
    intro a w h
    simp only [wpOps] at h
    simp only [wpOpsIn]
    cases ho : ops[i]? with
    | none=>rw [ho] at h; exact ih a w h
    | some o =>
      rw [ho] at h
      simp only at h ⊢
      by_cases hw : Region.wanted o (yielded ops a.tmps)=true
      · rw [if_pos hw] at h ⊢
        rcases h with h | ⟨_,h⟩
        · refine ⟨fun f _=>trivial,?_⟩
          rw [Oper.semAt_eq _ _ _ (fun c=>hd i o c ho)]
          exact upon_round ih _ h
        · exact (hQ h).elim
      · rw [if_neg hw] at h ⊢
        exact ⟨fun f _=>trivial,ih _ _ h⟩
def noDefer (ops : Array Oper) : Bool:=ops.toList.all fun o=>match o.op with | .defer _=>false | _=>true
theorem noDefer_at {ops : Array Oper} (h : noDefer ops=true) (i : Nat) (o : Oper) (c : Call) (ho : ops[i]?=some o) : o.op≠.defer c:=by
  intro e
  have hm : o ∈ ops.toList:=by
    rw [← Array.getElem?_toList] at ho;exact List.mem_of_getElem? ho
  have:=List.all_eq_true.1 h o hm;rw [e] at this
  cases this
theorem startR_ {m l : Nat} {P : Program} {ops : Array Oper} {Q : Exit→Act→World→Prop} {S : World→Prop} {ds : List Nat} {id n : Nat} {a : Act} {w : World} (lst : Array Bool) (hm : P.follows .mixedOrders=true) (hn : ops.size=n) (hl : Array.replicate n false=lst) (hQ : LetsOut Q→False) (hd : noDefer ops=true) (hS : S w.drew) (h : S w.drew→wpAnyLast P .any ops Q S ds n lst a w.drew) : (Code.region id ops true).wpIn (Fence.wide.inRound l) m P Q a w:=by
  subst hn;subst hl
  exact wpIn_region_draw fun t=>by
    simp only [Region.schedule,hm,Bool.true_or,if_true]
    exact wpOps_round hQ (noDefer_at hd) _ _ _ (wpAny_sound ops.size t _ a _ (wpAny_of_last _ _ _ _ (h hS)))
theorem Chunk_any (A : Option Addr) (n c : Nat) (w : World) : Calls Tryd.prog 24 #[.slice A n c,.int .i64 4] w fun e w'=>∃ bs bn : Nat,e=.returned (.func (.func 42) #[] #[.pointer (some ⟨bs,0,none⟩),.pointer (some ⟨bn,0,none⟩)])∧w'.heap[bs]?=some (.cells #[.slice A n c] 45)∧w'.heap[bn]?=some (.cells #[.int .i64 4] 3)∧w.heap.size≤bs∧bs<w'.heap.size∧w.heap.size≤bn∧bn<w'.heap.size∧Below w.heap.size w w':=by
  go_enter Tryd.func24,Tryd.ntmps24;go_wp2;go_ret
  refine ⟨w.heap.size,w.heap.size + 1,rfl,?_,?_,Nat.le_refl _,by simp; omega,by simp,by simp,((Below.refl _ w).alloc (Nat.le_refl _) _).alloc (by simp) _⟩
  · exact (Below.heap_alloc _ _ _ (by simp)).trans (World.alloc_heap_new w _)
  · have:=World.alloc_heap_new (w.alloc (.cells #[.slice A n c] 45)) (.cells #[.int .i64 4] 3)
    rwa [World.size_alloc] at this
theorem cut_four (ad : Addr) (n c k : Nat) (hk : 4 * k + 4≤n) (hc : n≤c) : ∀ W : World,(Instr.slice 45 (.slice (some ad) n c) (some (.int .i64 (4 * (k : Int)))) (some (.int .i64 (4 * (k : Int) + 4))) (some (.int .i64 (4 * (k : Int) + 4)))).run Tryd.prog W=.ok (.slice (some (ad.add (4 * k * 4))) 4 4) W:=by
  intro W;obtain ⟨i0,hi0,_,hsz,_⟩:=info_parts info51
  have hel : Tryd.prog.elem 45=51:=by simp [Program.elem,Tryd.underlying45]
  have hu : Tryd.prog.underlying 45=some (.slice (Tryd.prog.elem 45)):=by rw [hel]; exact Tryd.underlying45
  rw [run_slice_lhm W 45 (some ad) n c hu .i64 .i64 .i64 (4 * (k : Int)) (4 * (k : Int) + 4) (4 * (k : Int) + 4) (by omega) (by omega) (Int.le_refl _) (by omega),hel]
  have e1 : (4 * (k : Int)).toNat=4 * k:=by omega
  have e2 : (4 * (k : Int) + 4).toNat=4 * k + 4:=by omega
  simp [sizeOf,typeInfo,hi0,sliced,Result.andThen,e1,e2,hsz]
def upto (N k : Nat) : List (Fin N):=(List.finRange N).take k
theorem upto_succ {N k : Nat} (h : k<N) : upto N (k + 1)=upto N k++[⟨k,h⟩]:=by
  unfold upto
  rw [List.take_add_one,List.getElem?_eq_getElem (by simpa using h)]
  simp
theorem upto_len {N k : Nat} (h : k≤N) : (upto N k).length=k:=by simp [upto,h]
theorem upto_all (N : Nat) : upto N N=List.finRange N:=by
  unfold upto
  exact List.take_of_length_le (by simp)
set_option maxRecDepth 100000 in
set_option maxHeartbeats 2000000 in
theorem Chunk1_in (n : Nat) (hn : 1≤n) (l Bs Bn : Nat) (ad : Addr) (c N : Nat) (hc : 4 * N≤c) (hN : N<1000000) (J Jx : List (Fin N)→World→Prop) (hJd : ∀ s W nq,J s W→J s (W.drewN nq)) (hY : ∀ pre (x : Fin N) W,J pre W→pre.length<N→YieldAt Fence.wide (n - 1) Tryd.prog l #[.slice (some (ad.add (4 * x.1 * 4))) 4 4] W fun e W'=>(e=.returned (.bool true)∧J (pre++[x]) W'∧(W'.heap[Bs]?=W.heap[Bs]?∧W'.heap[Bn]?=W.heap[Bn]?))∨(e=.returned (.bool false)∧Jx (pre++[x]) W')) (W : World) (hBs : W.heap[Bs]?=some (.cells #[.slice (some ad) (4 * N) c] 45)) (hBn : W.heap[Bn]?=some (.cells #[.int .i64 4] 3)) (h0 : J [] W) : CallsIn Fence.wide n Tryd.prog 42 #[.func (.yield l) #[] #[],.pointer (some ⟨Bs,0,none⟩),.pointer (some ⟨Bn,0,none⟩)] W fun e W'=>(∃ v,e=.returned v)∧((∃ ys,ys=List.finRange N∧J ys W')∨(∃ pre,True∧Jx pre W')):=by
  refine callsIn_of_wp Tryd.func42 rfl trivial ?_ rfl
  simp only [Tryd.ntmps42,List.size_toArray,List.length_cons,List.length_nil,Nat.reduceAdd,Nat.reduceSub,Array.replicate_succ,Array.replicate_zero,List.push_toArray,List.append_toArray,List.nil_append,List.cons_append]
  gi_wp2
  gi_loopw [4] (fun i wr=>∃ k : Nat,k≤N∧i=.int .i64 (4 * (k : Int))∧J (upto N k) wr∧wr.heap[Bs]?=some (.cells #[.slice (some ad) (4 * N) c] 45)∧wr.heap[Bn]?=some (.cells #[.int .i64 4] 3))
    (fun i _=>4 * N - (intOf i).toNat)
  case atStart=>exact ⟨0,Nat.zero_le _,rfl,h0,hBs,hBn⟩
  case round =>
    obtain ⟨k,hk,rfl,hJs,hs,hb⟩:=hrel;have hcs:=bc_ hs 0;have hcb:=bc_ hb 0
    by_cases hlt : k<N
    · have h1 : ((4 * (k : Int))<((4 * N : Nat) : Int))=True:=eq_true (by omega)
      obtain ⟨i0,hi0,_,hsz,_⟩:=info_parts info51
      have hcut:=cut_from (P:=Tryd.prog) 45 51 .i64 Tryd.underlying45 hi0 4 hsz (some ad) (4 * N) c (4 * (k : Int)) (by omega) (by omega)
      have hmn : (((4 * N - (4 * (k : Int)).toNat : Nat) : Int)<4)=False:=eq_false (by omega)
      gi_wp2
      refine wpIn_wide.2 ?_;go_quiet (fail)
      obtain ⟨fn,tmps,assign,body,hy,hR⟩:=hY (upto N k) ⟨k,hlt⟩ (wr.drewN nq) (hJd _ _ _ hJs) (by rw [upto_len hk]; exact hlt)
      dsimp only at hy
      have hs' : (wr.drewN nq).heap[Bs]?=some (.cells #[.slice (some ad) (4 * N) c] 45):=hs;have hb' : (wr.drewN nq).heap[Bn]?=some (.cells #[.int .i64 4] 3):=hb;have hcs':=bc_ hs' 0
      have hcut4:=cut_four ad (4 * N) c k (by omega) hc
      have hw4 : IntKind.i64.wrap (4 * (k : Int) + 4)=4 * (k : Int) + 4:=by rw [i64_w]; unfold wrap64; omega
      gi_wp2
      refine hR.mono ?_;rintro e W3 (⟨rfl,hJ3,hk3,hk4⟩ | ⟨rfl,hJx3⟩)
      · have hb3:=hk4.trans hb'
        have hs3:=hk3.trans hs';have hcb3:=bc_ hb3 0
        gi_wp2
        go_roundw
        case rel=>exact ⟨k + 1,by omega,by simp; omega,by rw [upto_succ hlt]; exact hJ3,hs3,hb3⟩
        case measure=>simp [intOf]; omega
      · gi_wp2
        refine bodyPost_ret (results_none rfl _ _ _) rfl ?_;exact ⟨⟨_,rfl⟩,.inr ⟨_,trivial,hJx3⟩⟩
    · obtain rfl : k=N:=by omega
      have h1 : ((4 * (k : Int))<((4 * k : Nat) : Int))=False:=eq_false (by omega)
      gi_wp2
      go_end0
      exact ⟨⟨_,rfl⟩,.inl ⟨_,rfl,by rw [← upto_all]; exact hJs⟩⟩
set_option maxHeartbeats 2000000 in
theorem range_four {assign body : Code} {ps : Array Tmp} {g : Operand} {Q : Exit→Act→World→Prop} {a : Act} {w : World} (bs bn : Nat) (ad : Addr) (c N gb : Nat) (n1 n2 n3 : Int) (E : Fin N→S56) (hc : 4 * N≤c) (hN : N<1000000) (hg : a.eval g=.func (.func 42) #[] #[.pointer (some ⟨bs,0,none⟩),.pointer (some ⟨bn,0,none⟩)]) (hps : ps.size=1) (hBs : w.heap[bs]?=some (.cells #[.slice (some ad) (4 * N) c] 45)) (hBn : w.heap[bn]?=some (.cells #[.int .i64 4] 3)) (hns : bs≠gb) (hnn : bn≠gb) (hBK : w.heap[gb]?=some (.cells #[.int .i64 n1,.int .i64 n2,.int .i64 n3,.slice none 0 0] 26)) (P1 : Fin N→World→Prop) (hP : ∀ x W,KeepBut w W gb none→P1 x W) (a₁ : Fin N→Act) (hassign : ∀ (l : Nat) (x : Fin N) (W : World) (K : Act→World→Prop),K (a₁ x) W→assign.wpIn (Fence.wide.inRound l) 1 Tryd.prog (Exit.then K (fun _ _ _=>False)) { tmps:=(ps.zip (#[.slice (some (ad.add (4 * x.1 * 4))) 4 4])).foldl (fun t (p,v)=>t.setIfInBounds p v) a.tmps,defers:=[] } W) (hbody : ∀ (l : Nat) (x : Fin N) (W : World) (u : Value) (xs : List S56),P1 x W→w.heap.size≤W.heap.size→xs.length<N→W.heap[gb]?=some (.cells #[.int .i64 n1,.int .i64 n2,.int .i64 n3,u] 26)→Kd.R k56 56 W w.heap.size (fun _=>True) u xs→body.wpIn (Fence.wide.inRound l) 1 Tryd.prog (fun e _ W'=>e=.normal∧∃ u',W'.heap[gb]?=some (.cells #[.int .i64 n1,.int .i64 n2,.int .i64 n3,u'] 26)∧Kd.R k56 56 W' w.heap.size (fun _=>True) u' (xs++[E x])∧KeepBut W W' gb u.ownBlock∧Below 0 W W') (a₁ x) W) (hdone : ∀ (D : Nat) (W : World) (u : Value),w.heap.size≤D→W.heap[D]?=some (.deferred (some []))→Below 0 w W→KeepBut w W gb none→W.heap[gb]?=some (.cells #[.int .i64 n1,.int .i64 n2,.int .i64 n3,u] 26)→Kd.R k56 56 W w.heap.size (fun _=>True) u ((List.finRange N).map E)→Q .normal { a with defers:={ target:=.collected D,args:=#[] } :: a.defers } W) :
    (Code.rangeFunc g ps assign body).wp Tryd.prog Q a w:=by
  refine (wpIn_wide (n:=3)).1 ?_;have hgb : gb<w.heap.size:=(Array.getElem?_eq_some_iff.1 hBK).1;have hbs : bs<w.heap.size:=(Array.getElem?_eq_some_iff.1 hBs).1;have hbn : bn<w.heap.size:=(Array.getElem?_eq_some_iff.1 hBn).1
  refine wpIn_rangeFunc_ownF (F:=Fence.wide) (n:=3) (w0:=w) (N:=N) (encs:=fun x : Fin N=>#[.slice (some (ad.add (4 * x.1 * 4))) 4 4])
    (Kp:=fun W W'=>W'.heap[bs]?=W.heap[bs]?∧W'.heap[bn]?=W.heap[bn]?) (S:=fun xs=>xs=List.finRange N) (Sp:=fun _=>True)
    rfl (by omega) hg trivial (enters_of Tryd.func42 (by kernel_rfl) rfl) ?seq ?kt ?kb (Below.refl _ _) (fun _=>by simp [hps])
    (fun pre W=>Below 0 w W∧KeepBut w W gb none∧∃ u,W.heap[gb]?=some (.cells #[.int .i64 n1,.int .i64 n2,.int .i64 n3,u] 26)∧Kd.R k56 56 W w.heap.size (fun _=>True) u (pre.map E))
    (fun _ _ _=>False) ?own (fun _ _ _ _ _ hs _ _=>hs) ?start a₁ hassign ?body ?done ?stop
  case seq =>
    intro l J Jx W hW hJ hJx hY h0
    exact Chunk1_in 2 (by omega) l bs bn ad c N hc hN J Jx (fun s W nq hs=>hJ s W _ none hs ⟨rfl,rfl,rfl,Nat.le_refl _,fun _ _ _=>rfl⟩ (fun r e=>by cases e)) hY W ((hW.block bs hbs).trans hBs) ((hW.block bn hbn).trans hBn) h0
  case kt=>exact fun h k=>⟨k.1.trans h.1,k.2.trans h.2⟩
  case kb =>
    intro W l o o' hl ho _ _
    exact ⟨(grownBy_putObj' W l o').block bs (by have:=(Array.getElem?_eq_some_iff.1 ho).1; omega) (fun e=>by injection e; omega),(grownBy_putObj' W l o').block bn (by have:=(Array.getElem?_eq_some_iff.1 ho).1; omega) (fun e=>by injection e; omega)⟩
  case own =>
    rintro s A B row ⟨h0,hk,u,hu,hR⟩ hgr hr
    have hrow : ∀ i,i<w.heap.size→some i≠row:=fun i hi e=>by have:=(hr i e.symm).1; omega
    refine ⟨⟨hgr.os.trans h0.os,hgr.tape.trans h0.tape,hgr.output.trans h0.output,Nat.le_trans h0.size hgr.size,fun k hk=>absurd hk (Nat.not_lt_zero k)⟩,⟨Nat.le_trans hk.1 hgr.size,fun i hi hne _=>(hgr.block i (Nat.lt_of_lt_of_le hi hk.1) (hrow i hi)).trans (hk.2 i hi hne (by simp))⟩,u,(hgr.block gb (Nat.lt_of_lt_of_le hgb hk.1) (hrow gb hgb)).trans hu,?_⟩
    refine Kd.R_mono (Kd.R_grown (Kd.R_bound hR) hgr (fun k hk e=>?_)) (fun _ _=>trivial)
    obtain ⟨_,_,_,q,_,cells,hcell⟩:=hk;obtain ⟨_,o,ho,hno⟩:=hr k e.symm;rw [hcell] at ho
    cases ho
    cases hno
  case start=>exact ⟨Below.refl _ _,⟨Nat.le_refl _,fun _ _ _ _=>rfl⟩,_,hBK,Kd.R_nil _ _ _ _ _⟩
  case body =>
    rintro l pre x W ⟨h0,hk,u,hu,hR⟩ hlen
    refine wpIn_mono (hbody l x W u (pre.map E) (hP x W hk) hk.1 (by simpa using hlen) hu hR) ?_
    rintro e _ W' ⟨rfl,u',hu',hR',hk',h0'⟩
    have hown : ∀ i,some i=u.ownBlock→w.heap.size≤i∧∃ cells,W.heap[i]?=some (.cells cells 56 (0,0)):=fun i e=>by
      obtain ⟨_,h2,_,_⟩:=(Kd.R_bound hR).1 i e.symm;obtain ⟨inner,ho,_⟩:=hR.2;exact ⟨h2,own_typed ho i e.symm⟩
    refine ⟨⟨hk'.1,fun i o hi hno=>?_⟩,⟨?_,?_⟩,h0.trans h0',⟨Nat.le_trans hk.1 hk'.1,fun i hi hne _=>?_⟩,u',hu',by rw [List.map_append]; exact hR'⟩
    · refine (hk'.2 i (Array.getElem?_eq_some_iff.1 hi).1 ?_ ?_).trans hi
      · rintro rfl; rw [hu] at hi; cases hi; cases hno
      · intro e; obtain ⟨_,cells,hcell⟩:=hown i e; rw [hcell] at hi; cases hi; cases hno
    · exact hk'.2 bs (Nat.lt_of_lt_of_le hbs hk.1) hns (fun e=>by have:=(hown bs e).1; omega)
    · exact hk'.2 bn (Nat.lt_of_lt_of_le hbn hk.1) hnn (fun e=>by have:=(hown bn e).1; omega)
    · exact (hk'.2 i (Nat.lt_of_lt_of_le hi hk.1) hne (fun e=>by have:=(hown i e).1; omega)).trans (hk.2 i hi hne (by simp))
  case done =>
    rintro D xs W hD rfl ⟨h0,hk,u,hu,hR⟩ hK;exact hdone D W u hD hK h0 hk hu hR
  case stop =>
    rintro D c' pre W _ _ h _;exact h.elim
def chE (y : List S51) (x : Nat) : S56:=⟨(rd_T51 y ((4 * x + 1 : Nat) : Int)).f1,(rd_T51 y ((4 * x : Nat) : Int)).f1,(rd_T51 y ((4 * x + 2 : Nat) : Int)).f1,(rd_T51 y ((4 * x + 3 : Nat) : Int)).f1⟩
def slices_Chunk_api_Item_api_Item.f (l : List S51) (n : Int) : Option (List S56) :=
  if n=4∧0<l.length∧l.length=4 * (l.length / 4)∧l.length / 4<1000000 then some ((List.finRange (l.length / 4)).map fun x=>chE l x.1) else none
theorem chunk_f {l : List S51} {n : Int} {r : List S56} (h : slices_Chunk_api_Item_api_Item.f l n=some r) : ∃ N,0<N∧l.length=4 * N∧N<1000000∧r=(List.finRange N).map fun x=>chE l x.1:=by
  unfold slices_Chunk_api_Item_api_Item.f at h
  split at h
  · rename_i hc
    obtain ⟨_,h1,h2,h3⟩:=hc
    exact ⟨l.length / 4,by omega,h2,h3,(Option.some.inj h).symm⟩
  · cases h
def chP (y : List S51) (ad : Addr) (x : Nat) (W : World) : Prop :=
  W.cell? ⟨(ad.add (4 * x * 4)).block,(ad.add (4 * x * 4)).off + 1,none⟩=some (.int .i64 (rd_T51 y ((4 * x : Nat) : Int)).f1) ∧
  W.cell? ⟨(ad.add (4 * x * 4)).block,(ad.add (4 * x * 4)).off + 4 + 1,none⟩=some (.int .i64 (rd_T51 y ((4 * x + 1 : Nat) : Int)).f1) ∧
  W.cell? ⟨(ad.add (4 * x * 4)).block,(ad.add (4 * x * 4)).off + 8 + 1,none⟩=some (.int .i64 (rd_T51 y ((4 * x + 2 : Nat) : Int)).f1) ∧
  W.cell? ⟨(ad.add (4 * x * 4)).block,(ad.add (4 * x * 4)).off + 12 + 1,none⟩=some (.int .i64 (rd_T51 y ((4 * x + 3 : Nat) : Int)).f1)
theorem chP_of {y : List S51} {ad : Addr} {N : Nat} {W : World} (hy : y.length=4 * N) (hC : Kd.C k51 W (some ad) y.length y) (x : Fin N) : chP y ad x.1 W:=by
  have hx:=x.2
  have key : ∀ j : Nat,j<4→W.cell? ⟨(ad.add (4 * x.1 * 4)).block,(ad.add (4 * x.1 * 4)).off + j * 4 + 1,none⟩=some (.int .i64 (rd_T51 y ((4 * x.1 + j : Nat) : Int)).f1):=by
    intro j hj
    obtain ⟨ad',e,_,h1,_,_⟩:=at_T51 hC ((4 * x.1 + j : Nat) : Int) (by omega) (by omega)
    cases e
    rw [Int.toNat_natCast] at h1
    have ho : ∀ n,(ad.add n).off=ad.off + n:=fun n=>by unfold Addr.add; split <;> simp_all
    have hb : ∀ n,(ad.add n).block=ad.block:=fun n=>by unfold Addr.add; split <;> rfl
    have e2 : (ad.add ((4 * x.1 + j) * 4)).off + 1=(ad.add (4 * x.1 * 4)).off + j * 4 + 1:=by rw [ho,ho]; omega
    have e3 : (ad.add ((4 * x.1 + j) * 4)).block=(ad.add (4 * x.1 * 4)).block:=by rw [hb,hb]
    rw [e2,e3] at h1;exact h1
  exact ⟨key 0 (by omega),key 1 (by omega),key 2 (by omega),key 3 (by omega)⟩
def bodyPostR (P : Program) (fn : Func) (R : Ending→World→Prop) : Exit→Act→World→Prop
  | .normal,a,w | .ret,a,w=>(a.defers=[]∧∃ v,(results fn a.tmps).run P w=.ok v w∧R (.returned v) w) ∨
      (∃ D v,a.defers=[{ target:=.collected D,args:=#[] }]∧w.heap[D]?=some (.deferred (some []))∧(results fn a.tmps).run P (w.putObj D (.deferred none))=.ok v (w.putObj D (.deferred none))∧R (.returned v) (w.putObj D (.deferred none)))
  | .panic chain,a,w=>a.defers=[]∧R (.panicked chain) w
  | .outgrown,_,w=>R .outgrown w
  | _,_,_=>False
theorem leavesR {P : Program} {fn : Func} {R : Ending→World→Prop} {a : Act} {w : World} (h : bodyPostR P fn R .ret a w) : LeavesInM Fence.wide 3 P fn a.tmps R a.defers .returning w:=by
  rcases h with ⟨hd,v,hr,hR⟩ | ⟨D,v,hd,hK,hr,hR⟩
  · rw [hd]; exact ⟨v,hr,hR⟩
  · rw [hd]; exact ⟨by simp,.inl ⟨D,_,rfl,run_takeDeferred hK,v,hr,hR⟩⟩
theorem calls_of_wp_r {P : Program} {f : FuncId} {fn : Func} {c : Code} {args : Array Value} {w : World} {R : Ending→World→Prop} (hf : P.funcs[f]?=some fn) (hb : fn.body=some c) (h : c.wp P (bodyPostR P fn R) { tmps:=args++Array.replicate (fn.ntmps - args.size) undef,defers:=[] } w) : Calls P f args w R:=by
  refine callsIn_wide.1 (callsIn_of_wp_marks (F:=Fence.wide) (n:=3) hf hb trivial (wpIn_mono (wpIn_wide.2 h) ?_) rfl);intro e a w he
  cases e with
  | normal=>exact leavesR he
  | ret=>exact leavesR he
  | panic chain=>obtain ⟨hd,hR⟩:=he; show LeavesInM _ _ _ _ _ _ a.defers _ _; rw [hd]; exact hR
  | outgrown=>exact he
  | exit id=>exact he
  | goto l=>exact he
theorem bodyPostR_ret {P : Program} {fn : Func} {R : Ending→World→Prop} {a : Act} {w : World} {v : Value} (hr : (results fn a.tmps).run P w=.ok v w) (hd : a.defers=[]) (hR : R (.returned v) w) : bodyPostR P fn R .ret a w:=.inl ⟨hd,v,hr,hR⟩
theorem bodyPostR_mark {P : Program} {fn : Func} {R : Ending→World→Prop} {a : Act} {w : World} {v : Value} {D : Nat} (hK : w.heap[D]?=some (.deferred (some []))) (hr : (results fn a.tmps).run P (w.putObj D (.deferred none))=.ok v (w.putObj D (.deferred none))) (hd : a.defers=[{ target:=.collected D,args:=#[] }]) (hR : R (.returned v) (w.putObj D (.deferred none))) : bodyPostR P fn R .ret a w:=.inr ⟨D,v,hd,hK,hr,hR⟩
theorem close_at {w : World} {D : Nat} {o : Obj} {i : Nat} (hi : i<w.heap.size) (hne : i≠D) : (w.putObj D o).heap[i]?=w.heap[i]?:=(grownBy_putObj' w D o).block i hi (fun e=>hne (by injection e))
theorem blk_close {w : World} {g D : Nat} {t : TypeId} {cs : Array Value} {x : Option (List Deferred)} {o : Obj} (h : w.heap[g]?=some (.cells cs t (0,0))) (hD : w.heap[D]?=some (.deferred x)) : (w.putObj D o).heap[g]?=some (.cells cs t (0,0)) :=
  (close_at (blk_lt h) (by rintro rfl; rw [h] at hD; cases hD)).trans h
theorem R_close {α : Type} {d : Kd α} {e : Nat} {w : World} {base : Nat} {v : Value} {xs : List α} {D : Nat} {x : Option (List Deferred)} {o : Obj} (h : Kd.R d e w base (fun _=>True) v xs) (hD : w.heap[D]?=some (.deferred x)) : Kd.R d e (w.putObj D o) base (fun _=>True) v xs:=by
  refine Kd.R_mono (Kd.R_move (Kd.R_bound h) (fun k hk=>?_)) (fun _ _=>trivial)
  obtain ⟨_,_,hlt,q,_,cells,hc⟩:=hk
  exact close_at hlt (by rintro rfl; rw [hc] at hD; cases hD)
theorem below_close {B : Nat} {w w1 : World} {D : Nat} {x : Option (List Deferred)} {o : Obj} (h : Below B w w1) (hD : w1.heap[D]?=some (.deferred x)) (hB : B≤D) (hs : B≤w.heap.size) : Below B w (w1.putObj D o) :=
  have hg:=grownBy_putObj' w1 D o
  ⟨hg.os.trans h.os,hg.tape.trans h.tape,hg.output.trans h.output,Nat.le_trans h.size hg.size,fun k hk=>(close_at (by have:=h.size; omega) (by omega)).trans (h.block k hk)⟩
theorem below_keep' {B : Nat} {w w1 w2 : World} {g : Nat} (h : Below B w w1) (h0 : Below 0 w1 w2) (hk : KeepBut w1 w2 g none) (hg : B≤g) (hs : B≤w.heap.size) : Below B w w2 :=
  ⟨h0.os.trans h.os,h0.tape.trans h.tape,h0.output.trans h.output,Nat.le_trans h.size h0.size,fun k hk'=>(hk.2 k (by have:=h.size; omega) (by omega) (by simp)).trans (h.block k hk')⟩
theorem keep_put {W W1 : World} {g : Nat} {row : Option Nat} {j : Nat} {v : Value} (hg : W.drew.grownBy W1 row) : KeepBut W (W1.setCell ⟨g,j,none⟩ v) g row∧Below 0 W (W1.setCell ⟨g,j,none⟩ v):=by
  have h1 : Below 0 W W.drew:=(Below.refl 0 W).drew;have h2 : Below 0 W1 (W1.setCell ⟨g,j,none⟩ v):=(Below.refl 0 W1).setCell (p:=⟨g,j,none⟩) (Nat.zero_le _) _;have hsz : W.heap.size≤W.drew.heap.size:=h1.size
  refine ⟨⟨Nat.le_trans hsz (Nat.le_trans hg.size h2.size),fun i hi hne hr=>?_⟩,⟨h2.os.trans (hg.os.trans h1.os),h2.tape.trans (hg.tape.trans h1.tape),h2.output.trans (hg.output.trans h1.output),Nat.le_trans hsz (Nat.le_trans hg.size h2.size),fun k hk=>absurd hk (Nat.not_lt_zero k)⟩⟩
  exact (Below.heap_setCell W1 ⟨g,j,none⟩ v i hne).trans (hg.block i (Nat.lt_of_lt_of_le hi hsz) hr)
open Go.RowKit YtbmcbhpkefjhbaaDoorW.PrintWords YtbmcbhpkefjhbaaDoorW.PrintLast YtbmcbhpkefjhbaaDoorW.PrintMore
attribute [local go_sem] max2_int min2_int max_two min_two max_three min_three max_four min_four   -- for this text's walks alone
attribute [local go_sem] run_store_float
mutual
def table_Decode.j0 : Nat→List Int→Int→Bool→Option (Int × Int × Int × (List (S56)) × Int)
 | 0,_,_,_=>none
 | k + 1,x4,x5,x25=>if x25=true then (some (0,0,0,([] : List (S56)),x5)) else ((table_kinds.f).bind fun t269=>((pack_Take.f x4 t269).bind fun bt272=>(if bt272.2.2=0 then (if 0<(bt272.1.length : Int) then (if ((rd_T51 bt272.1 0).f1)=84 then (if 0≤bt272.2.1 then (if bt272.2.1≤(x4.length : Int) then ((table_nought.f k (x4.drop (bt272.2.1 : Int).toNat)).bind fun t282=>(table_Decode.j1 k bt272.1 (!t282))) else (none)) else (none)) else (table_Decode.j1 k bt272.1 true)) else (none)) else (table_Decode.j1 k bt272.1 true))))
def table_Decode.j1 : Nat→List (S51)→Bool→Option (Int × Int × Int × (List (S56)) × Int)
 | 0,_,_=>none
 | k + 1,x6,x50=>if x50=true then (some (0,0,0,([] : List (S56)),4)) else (if 1<(x6.length : Int) then (if 2<(x6.length : Int) then (if 3<(x6.length : Int) then (if 4≤(x6.length : Int) then ((slices_Chunk_api_Item_api_Item.f (x6.drop 4) 4).bind fun t291=>((table_Check.f k ((rd_T51 x6 1).f1) ((rd_T51 x6 2).f1) ((rd_T51 x6 3).f1) t291).bind fun t294=>(if t294=0 then (some ((rd_T51 x6 1).f1,(rd_T51 x6 2).f1,(rd_T51 x6 3).f1,t291,0)) else (some (0,0,0,([] : List (S56)),4))))) else (none)) else (none)) else (none)) else (none))
end
def table_Decode.f (k : Nat) (l0 : List Int) : Option (Int × Int × Int × (List (S56)) × Int):=if (l0.length : Int)=512 then ((table_nought.f k l0).bind fun t258=>(if t258=true then ((table_First.f).bind fun bt259=>(some (bt259.1,bt259.2.1,bt259.2.2.1,bt259.2.2.2,0))) else ((tally_Open.f k l0).bind fun bt265=>(table_Decode.j0 k bt265.1 bt265.2 (bt265.2 != 0))))) else (some (0,0,0,([] : List (S56)),1))
def table_Decode.T11 : Bool × List (List Nat × List Nat):=(true,[([],[]),([0],[0]),([1],[1]),([2],[2]),([],[]),([4],[4]),([5],[5]),([6],[6]),([],[]),([8],[8]),([9],[9]),([10],[10]),([3,7,11],[3,7,11]),([],[]),([13,12,0,1,2,3,4,5,6,7,8,9,10,11,12,13],[12,13])])
def table_Decode.B11 : List Nat:=[0,1,3,7,0,16,48,112,0,256,768,1792,4095,0,16383]
theorem table_Decode.tab11 : rtab .any (opsOf Tryd.f6 11)=table_Decode.T11:=by kernel_rfl
theorem table_Decode.bits11 : waitsOk table_Decode.T11.2 table_Decode.B11=true:=by kernel_rfl
def table_Decode.T14 : Bool × List (List Nat × List Nat):=(true,[([],[]),([0],[0]),([],[]),([2],[2]),([3],[3]),([4],[4]),([],[]),([6],[6]),([7],[7]),([8],[8]),([],[]),([10],[10]),([11],[11]),([12],[12]),([],[]),([14],[14]),([15],[15]),([16],[16]),([5,9,13,17],[5,9,13,17]),([18],[18]),([1,19],[1,19]),([0,1,2,3,4,5,6,7,8,9,10,11,12,13,14,15,16,17,18,19,20],[]),([21,20,20,0,1,2,3,4,5,6,7,8,9,10,11,12,13,14,15,16,17,18,19,20],[20,21])])
def table_Decode.B14 : List Nat:=[0,1,0,4,12,28,0,64,192,448,0,1024,3072,7168,0,16384,49152,114688,262140,524284,1048575,2097151,4194303]
theorem table_Decode.tab14 : rtab .any (opsOf Tryd.f6 14)=table_Decode.T14:=by kernel_rfl
theorem table_Decode.bits14 : waitsOk table_Decode.T14.2 table_Decode.B14=true:=by kernel_rfl
set_option maxHeartbeats 8000000 in
set_option maxRecDepth 100000 in
theorem table_Decode.calls (k : Nat) (A0 : Option Addr) (c0 : Nat) (l0 : List Int) (r1 : Int) (r2 : Int) (r3 : Int) (r4 : List (S56)) (r5 : Int) (w : World) (hr0 : Kd.C (Kd.int .u8) w A0 l0.length l0) (hc0 : l0.length≤c0) (h : table_Decode.f k l0=some (r1,r2,r3,r4,r5)) :
  Calls Tryd.prog 6 #[.slice A0 l0.length c0] w fun e w'=>∃ v3_ : Value,e=.returned (.tuple #[.agg #[.int .i64 r1,.int .i64 r2,.int .i64 r3,v3_],.int .i64 r5])∧Kd.R k56 56 w' w.heap.size (fun _=>True) v3_ r4∧Below w.heap.size w w':=by
 have hu26:=Tryd.underlying26;have HR0:=A_ hr0;have HC0:=A_ hc0;clear hr0 hc0;have HB:=A_ (Below.refl w.heap.size w)
 have H : (if (l0.length : Int)=512 then ((table_nought.f k l0).bind fun t258=>(if t258=true then ((table_First.f).bind fun bt259=>(some (bt259.1,bt259.2.1,bt259.2.2.1,bt259.2.2.2,0))) else ((tally_Open.f k l0).bind fun bt265=>(table_Decode.j0 k bt265.1 bt265.2 (bt265.2 != 0))))) else (some (0,0,0,([] : List (S56)),1)))=some (r1,r2,r3,r4,r5):=h
 clear h
 by_cases c2 : (l0.length : Int)=512
 rotate_left
 ·rw [if_neg c2] at H
  have c2b0 : ((l0.length : Int) == 512)=false:=beq_eq_false_iff_ne.mpr c2;have c2b1 : ((l0.length : Int) != 512)=true:=bne_iff_ne.mpr c2
  simp only [Option.some.injEq,Prod.mk.injEq] at H
  obtain ⟨rfl,rfl,rfl,rfl,rfl⟩:=H
  (refine calls_of_wp_r Tryd.func6 rfl ?_;let qx_ : Exit→Act→World→Prop:=bodyPost Tryd.prog Tryd.f6 (fun _ _=>True);simp only [Tryd.ntmps6,List.size_toArray,List.length_cons,List.length_nil,Nat.reduceAdd,Nat.reduceSub,Array.replicate_succ,Array.replicate_zero,List.push_toArray,List.append_toArray,List.nil_append,List.cons_append])
  go_wp2_with (first|((with_reducible refine gate_dst (N:=2) rfl ?_);refine box_event ?hg (N:=2) ?hd (cs:=#[.int .i64 0,.int .i64 0,.int .i64 0,.slice none 0 0]) (t:=26) ?hr ?_;(case hd=>rfl);(case hg=>rfl);(case hr=>first|(go_simp;done)|(go_simp;rfl));intro gb257 hg w75 hbox hb;have n0_:=A_ (bp_ (hb0_ HB.out) hb);have n1_:=A_ (hbox);have n2_:=A_ ((by rw [hg];exact (bz_ (hb0_ HB.out)) : w.heap.size≤gb257));have n3_:=n2_;clear HB;have HB:=n0_;have BK257:=n1_;have GW257:=n2_;have GE257:=n3_;clear n0_ n1_ n2_ n3_;clear hb hbox hg;obtain ⟨z76_0,z76_1,z76_2,z76_3⟩:=blkc_4 BK257.out;obtain ⟨y76_0,y76_1,y76_2⟩:=blkz_3 BK257.out;have y76_3:=bf_ BK257.out 3))
  refine bodyPostR_ret (results_ct rfl _ _ gb257 26 #[.int .i64 0,.int .i64 0,.int .i64 0,.slice none 0 0] (0,0) _ rfl (by refine kk_ ?_;apply blkf_4_0_3;exact kk_ BK257.out) Tryd.underlying26 rfl (by kernel_rfl)) rfl ?_
  exact ⟨_,by first|rfl|(simp [errW_none,errW_some] <;> rfl)|(simp [*,errW_none,errW_some] <;> rfl),by first|exact Kd.R_nil _ _ _ _ _|exact Kd.N_nil _ _ _ _ _|exact Kd.V_nil _ _ _ _ _|exact Kd.Q_nil _ _ _ _ _|exact Kd.S_nil _ _ _ _ _,hb1_ HB.out GE257.out⟩
 rw [if_pos c2] at H
 have c2b0 : ((l0.length : Int) == 512)=true:=beq_iff_eq.mpr c2;have c2b1 : ((l0.length : Int) != 512)=false:=bne_eq_false_iff_eq.mpr c2;clear c2;replace H:=Option.bind_eq_some_iff.mp H;obtain ⟨t258,A30,H⟩:=H
 replace H : (if t258=true then ((table_First.f).bind fun bt259=>(some (bt259.1,bt259.2.1,bt259.2.2.1,bt259.2.2.2,0))) else ((tally_Open.f k l0).bind fun bt265=>(table_Decode.j0 k bt265.1 bt265.2 (bt265.2 != 0))))=some (r1,r2,r3,r4,r5):=H
 have A3:=A_ A30;clear A30
 by_cases c4 : t258=true
 ·subst c4
  have H1 : ((table_First.f).bind fun bt259=>(some (bt259.1,bt259.2.1,bt259.2.2.1,bt259.2.2.2,0)))=some (r1,r2,r3,r4,r5):=by rw [if_pos rfl] at H;exact H
  clear H;have H:=H1;clear H1;replace H:=Option.bind_eq_some_iff.mp H;obtain ⟨⟨t259,t260,t261,t262⟩,A50,H⟩:=H;replace H : (some (t259,t260,t261,t262,0))=some (r1,r2,r3,r4,r5):=H;have A5:=A_ A50;clear A50
  simp only [Option.some.injEq,Prod.mk.injEq] at H
  obtain ⟨rfl,rfl,rfl,rfl,rfl⟩:=H
  (refine calls_of_wp_r Tryd.func6 rfl ?_;let qx_ : Exit→Act→World→Prop:=bodyPost Tryd.prog Tryd.f6 (fun _ _=>True);simp only [Tryd.ntmps6,List.size_toArray,List.length_cons,List.length_nil,Nat.reduceAdd,Nat.reduceSub,Array.replicate_succ,Array.replicate_zero,List.push_toArray,List.append_toArray,List.nil_append,List.cons_append])
  go_wp2_with (first|((with_reducible refine gate_dst (N:=2) rfl ?_);refine box_event ?hg (N:=2) ?hd (cs:=#[.int .i64 0,.int .i64 0,.int .i64 0,.slice none 0 0]) (t:=26) ?hr ?_;(case hd=>rfl);(case hg=>rfl);(case hr=>first|(go_simp;done)|(go_simp;rfl));intro gb257 hg w6 hbox hb;have n0_:=A_ (bp_ (hb0_ HB.out) hb);have n1_:=A_ (hbox);have n2_:=A_ ((by rw [hg];exact (bz_ (hb0_ HB.out)) : w.heap.size≤gb257));have n3_:=n2_;clear HB;have HB:=n0_;have BK257:=n1_;have GW257:=n2_;have GE257:=n3_;clear n0_ n1_ n2_ n3_;clear hb hbox hg)|((with_reducible refine gate_callee (f:=20) rfl ?_);refine goesL_ (some 17) rfl rfl Tryd.func20 (by kernel_rfl) rfl #[.slice A0 l0.length c0] rfl (by (try simp only [List.map_toArray,List.map_cons,List.map_nil]);first|done|rfl|(simp only [List.length_drop,List.length_take];rfl)) ?_;(with_reducible refine (table_nought.calls k _ _ l0 true _ ?side1 ?side2 A3.out).mono ?_);(case side1=>repeat (first|exact (Kd.C_below HR0.out HB.out)|(with_reducible refine Kd.C_alloc ?_ _)|(with_reducible refine Kd.C_drewN ?_ _)|(with_reducible refine Kd.C_drew ?_)));(case side2=>exact HC0.out);rintro e w7 ⟨rfl,hb⟩;refine ⟨_,rfl,?_⟩;have n0_:=A_ (bx_ BK257.out kf_ hb);have n1_:=A_ (bp_ (hb1_ HB.out GE257.out) hb);clear BK257;clear HB;have BK257:=n0_;have HB:=n1_;clear n0_ n1_;(try clear hb);(try clear hb2);(try clear hk);(try clear hi))|((with_reducible refine gate_callee (f:=9) rfl ?_);refine goesL_ (some 18) rfl rfl Tryd.func9 (by kernel_rfl) rfl #[] rfl (by (try simp only [List.map_toArray,List.map_cons,List.map_nil]);first|done|rfl|(simp only [List.length_drop,List.length_take];rfl)) ?_;(with_reducible refine (table_First.calls  t259 t260 t261 t262 _ A5.out).mono ?_);rintro e w8 ⟨v263,rfl,ho0,hb⟩;refine ⟨_,rfl,?_⟩;have n0_:=A_ (Kd.R_lower ho0 (bz_ (hb1_ HB.out GE257.out)));have n1_:=A_ (bx_ BK257.out kf_ hb);have n2_:=A_ (bp_ (hb1_ HB.out GE257.out) hb);clear BK257;clear HB;have HO264:=n0_;have BK257:=n1_;have HB:=n2_;clear n0_ n1_ n2_;(try clear hb);(try clear hb2);(try clear hk);(try clear hi);(try clear ho0);obtain ⟨z9_0,z9_1,z9_2,z9_3⟩:=blkc_4 BK257.out;obtain ⟨y9_0,y9_1,y9_2,y9_3⟩:=blkz_4 BK257.out;obtain ⟨Ao10,co10,eo10⟩:=Kd.R_slice HO264.out;subst eo10))
  refine bodyPostR_ret (results_ct rfl _ _ gb257 26 #[.int .i64 t259,.int .i64 t260,.int .i64 t261,.slice Ao10 t262.length co10] (0,0) _ rfl (by refine kk_ ?_;apply blkf_4_0_3;exact kk_ BK257.out) Tryd.underlying26 rfl (by kernel_rfl)) rfl ?_
  exact ⟨_,by first|rfl|(simp [errW_none,errW_some] <;> rfl)|(simp [*,errW_none,errW_some] <;> rfl),by (with_reducible repeat (first|apply ra_|apply rn_|apply re_));exact Kd.R_mono (rf_ (p:=⟨gb257,3,none⟩) (rf_ (p:=⟨gb257,2,none⟩) (rf_ (p:=⟨gb257,1,none⟩) (rf_ (p:=⟨gb257,0,none⟩) (Kd.R_types HO264.out BK257.out (by decide)) (fun _ hk=>hk.2) (.int .i64 t259)) (fun _ hk=>hk.2) (.int .i64 t260)) (fun _ hk=>hk.2) (.int .i64 t261)) (fun _ hk=>hk.2) (.slice Ao10 t262.length co10)) (fun _ hk=>trivial),hb1_ HB.out GE257.out⟩
 replace c4:=Bool.eq_false_iff.mpr c4
 subst c4
 have H1 : ((tally_Open.f k l0).bind fun bt265=>(table_Decode.j0 k bt265.1 bt265.2 (bt265.2 != 0)))=some (r1,r2,r3,r4,r5):=by rw [if_neg (show ¬ (false=true) by decide)] at H;exact H
 clear H;have H:=H1;clear H1;replace H:=Option.bind_eq_some_iff.mp H;obtain ⟨⟨t265,t266⟩,A110,H⟩:=H;replace H : (table_Decode.j0 k t265 t266 (t266 != 0))=some (r1,r2,r3,r4,r5):=H;have A11:=A_ A110;clear A110;have HC12:=A_ H;clear H
 (refine calls_of_wp_r Tryd.func6 rfl ?_;let qx_ : Exit→Act→World→Prop:=bodyPost Tryd.prog Tryd.f6 (fun _ _=>True);simp only [Tryd.ntmps6,List.size_toArray,List.length_cons,List.length_nil,Nat.reduceAdd,Nat.reduceSub,Array.replicate_succ,Array.replicate_zero,List.push_toArray,List.append_toArray,List.nil_append,List.cons_append])
 go_upto_region 6 with (first|((with_reducible refine gate_dst (N:=2) rfl ?_);refine box_event ?hg (N:=2) ?hd (cs:=#[.int .i64 0,.int .i64 0,.int .i64 0,.slice none 0 0]) (t:=26) ?hr ?_;(case hd=>rfl);(case hg=>rfl);(case hr=>first|(go_simp;done)|(go_simp;rfl));intro gb257 hg w13 hbox hb;have n0_:=A_ (bp_ (hb0_ HB.out) hb);have n1_:=A_ (hbox);have n2_:=A_ ((by rw [hg];exact (bz_ (hb0_ HB.out)) : w.heap.size≤gb257));have n3_:=n2_;clear HB;have HB:=n0_;have BK257:=n1_;have GW257:=n2_;have GE257:=n3_;clear n0_ n1_ n2_ n3_;clear hb hbox hg)|((with_reducible refine gate_callee (f:=20) rfl ?_);refine goesL_ (some 17) rfl rfl Tryd.func20 (by kernel_rfl) rfl #[.slice A0 l0.length c0] rfl (by (try simp only [List.map_toArray,List.map_cons,List.map_nil]);first|done|rfl|(simp only [List.length_drop,List.length_take];rfl)) ?_;(with_reducible refine (table_nought.calls k _ _ l0 false _ ?side1 ?side2 A3.out).mono ?_);(case side1=>repeat (first|exact (Kd.C_below HR0.out HB.out)|(with_reducible refine Kd.C_alloc ?_ _)|(with_reducible refine Kd.C_drewN ?_ _)|(with_reducible refine Kd.C_drew ?_)));(case side2=>exact HC0.out);rintro e w14 ⟨rfl,hb⟩;refine ⟨_,rfl,?_⟩;have n0_:=A_ (bx_ BK257.out kf_ hb);have n1_:=A_ (bp_ (hb1_ HB.out GE257.out) hb);clear BK257;clear HB;have BK257:=n0_;have HB:=n1_;clear n0_ n1_;(try clear hb);(try clear hb2);(try clear hk);(try clear hi))|((with_reducible refine gate_callee (f:=21) rfl ?_);refine goesL_ (some 21) rfl rfl Tryd.func21 (by kernel_rfl) rfl #[.slice A0 l0.length c0] rfl (by (try simp only [List.map_toArray,List.map_cons,List.map_nil]);first|done|rfl|(simp only [List.length_drop,List.length_take];rfl)) ?_;(with_reducible refine (tally_Open.calls k _ _ l0 t265 t266 _ ?side1 ?side2 A11.out).mono ?_);(case side1=>repeat (first|exact (Kd.C_below HR0.out HB.out)|(with_reducible refine Kd.C_alloc ?_ _)|(with_reducible refine Kd.C_drewN ?_ _)|(with_reducible refine Kd.C_drew ?_)));(case side2=>exact HC0.out);rintro e w15 ⟨v267,rfl,ho0,hb⟩;refine ⟨_,rfl,?_⟩;have n0_:=A_ (Kd.Q_lower ho0 (bz_ (hb1_ HB.out GE257.out)));have n1_:=A_ (bx_ BK257.out kf_ hb);have n2_:=A_ (bp_ (hb1_ HB.out GE257.out) hb);clear BK257;clear HB;have HO268:=n0_;have BK257:=n1_;have HB:=n2_;clear n0_ n1_ n2_;(try clear hb);(try clear hb2);(try clear hk);(try clear hi);(try clear ho0)))
 (try simp only [Act.put,u1_,u2_,u3_])
 go_cut [25] (fun v25 wc=>∃ (kq : Nat) (x25_11 : Bool),v25=.bool x25_11∧Aside0 (table_Decode.j0 kq t265 t266 x25_11=some (r1,r2,r3,r4,r5))∧Aside0 (kq≤k)∧Aside0 (Kd.Q (Kd.int .u8) 5 wc w.heap.size (fun _=>True) v267 t265)∧Aside0 (wc.heap[gb257]?=some (.cells #[.int .i64 0,.int .i64 0,.int .i64 0,(.slice none 0 0)] 26 (0,0)))∧Aside0 (Below w.heap.size w wc))
 case first =>
  have H:=HC12.out;clear HC12;have H':=A_ H;clear H;go_wp2;go_meet
  case rel=>exact ⟨_,((t266 != 0)),(by first|rfl|(simp;done)|(simp [*];done)),H',⟨by first|omega|exact Nat.le_refl _⟩,⟨by (with_reducible repeat (first|apply Kd.Q_alloc|apply Kd.Q_drewN|apply Kd.Q_drew));exact HO268.out⟩,⟨by exact kk_ BK257.out⟩,⟨hb1_ HB.out GE257.out⟩⟩
 case rest =>
  clear HC12;(try clear c2);(try clear c2b0);(try clear c2b1);(try clear p2);(try clear c4);(try clear c6);(try clear c9);(try clear z9_0 z9_1 z9_2 z9_3 y9_0 y9_1 y9_2 y9_3);obtain ⟨kq,x25_11,rfl,HA,HJ11,HO_4,BK257,HB⟩:=hcut
  cases kq with
  | zero=>exact absurd HA.out (by simp [table_Decode.j0])
  | succ kj11 =>
   have H:=HA.out;clear HA
   simp only [table_Decode.j0] at H
   by_cases c16 : x25_11=true
   ·subst c16
    have H1 : (some (0,0,0,([] : List (S56)),t266))=some (r1,r2,r3,r4,r5):=by rw [if_pos rfl] at H;exact H
    clear H;have H:=H1;clear H1
    simp only [Option.some.injEq,Prod.mk.injEq] at H
    obtain ⟨rfl,rfl,rfl,rfl,rfl⟩:=H;obtain ⟨z17_0,z17_1,z17_2,z17_3⟩:=blkc_4 BK257.out;obtain ⟨y17_0,y17_1,y17_2,y17_3⟩:=blkz_4 BK257.out;go_wp2
    refine bodyPostR_ret (results_ct rfl _ _ gb257 26 #[.int .i64 0,.int .i64 0,.int .i64 0,.slice none 0 0] (0,0) _ rfl (by refine kk_ ?_;apply blkf_4_0_3;exact kk_ BK257.out) Tryd.underlying26 rfl (by kernel_rfl)) rfl ?_
    exact ⟨_,by first|rfl|(simp [errW_none,errW_some] <;> rfl)|(simp [*,errW_none,errW_some] <;> rfl),by first|exact Kd.R_nil _ _ _ _ _|exact Kd.N_nil _ _ _ _ _|exact Kd.V_nil _ _ _ _ _|exact Kd.Q_nil _ _ _ _ _|exact Kd.S_nil _ _ _ _ _,hb1_ HB.out GE257.out⟩
   replace c16:=Bool.eq_false_iff.mpr c16
   subst c16
   have H1 : ((table_kinds.f).bind fun t269=>((pack_Take.f t265 t269).bind fun bt272=>(if bt272.2.2=0 then (if 0<(bt272.1.length : Int) then (if ((rd_T51 bt272.1 0).f1)=84 then (if 0≤bt272.2.1 then (if bt272.2.1≤(t265.length : Int) then ((table_nought.f kj11 (t265.drop (bt272.2.1 : Int).toNat)).bind fun t282=>(table_Decode.j1 kj11 bt272.1 (!t282))) else (none)) else (none)) else (table_Decode.j1 kj11 bt272.1 true)) else (none)) else (table_Decode.j1 kj11 bt272.1 true))))=some (r1,r2,r3,r4,r5):=by rw [if_neg (show ¬ (false=true) by decide)] at H;exact H
   clear H;have H:=H1;clear H1;replace H:=Option.bind_eq_some_iff.mp H;obtain ⟨t269,A180,H⟩:=H
   replace H : ((pack_Take.f t265 t269).bind fun bt272=>(if bt272.2.2=0 then (if 0<(bt272.1.length : Int) then (if ((rd_T51 bt272.1 0).f1)=84 then (if 0≤bt272.2.1 then (if bt272.2.1≤(t265.length : Int) then ((table_nought.f kj11 (t265.drop (bt272.2.1 : Int).toNat)).bind fun t282=>(table_Decode.j1 kj11 bt272.1 (!t282))) else (none)) else (none)) else (table_Decode.j1 kj11 bt272.1 true)) else (none)) else (table_Decode.j1 kj11 bt272.1 true)))=some (r1,r2,r3,r4,r5):=H
   have A18:=A_ A180;clear A180;replace H:=Option.bind_eq_some_iff.mp H;obtain ⟨⟨t272,t273,t274⟩,A190,H⟩:=H
   replace H : (if t274=0 then (if 0<(t272.length : Int) then (if ((rd_T51 t272 0).f1)=84 then (if 0≤t273 then (if t273≤(t265.length : Int) then ((table_nought.f kj11 (t265.drop (t273 : Int).toNat)).bind fun t282=>(table_Decode.j1 kj11 t272 (!t282))) else (none)) else (none)) else (table_Decode.j1 kj11 t272 true)) else (none)) else (table_Decode.j1 kj11 t272 true))=some (r1,r2,r3,r4,r5):=H
   have A19:=A_ A190;clear A190;have HC20:=A_ H;clear H
   go_upto_region 9 with (first|((with_reducible refine gate_callee (f:=23) rfl ?_);refine goesL_ (some 30) rfl rfl Tryd.func23 (by kernel_rfl) rfl #[] rfl (by (try simp only [List.map_toArray,List.map_cons,List.map_nil]);first|done|rfl|(simp only [List.length_drop,List.length_take];rfl)) ?_;(with_reducible refine (table_kinds.calls  t269 _ A18.out).mono ?_);rintro e w21 ⟨v270,rfl,ho0,hb⟩;refine ⟨_,rfl,?_⟩;have n0_:=A_ (Kd.Q_below (by (with_reducible repeat (first|apply Kd.Q_alloc|apply Kd.Q_drewN|apply Kd.Q_drew));exact HO_4.out) hb);have n1_:=A_ (Kd.R_lower ho0 (bz_ (hb1_ HB.out GE257.out)));have n2_:=A_ (bx_ BK257.out kf_ hb);have n3_:=A_ (bp_ (hb1_ HB.out GE257.out) hb);clear HO_4;clear BK257;clear HB;have HO_4:=n0_;have HO271:=n1_;have BK257:=n2_;have HB:=n3_;clear n0_ n1_ n2_ n3_;(try clear hb);(try clear hb2);(try clear hk);(try clear hi);(try clear ho0);obtain ⟨Ao22,co22,eo22,_⟩:=Kd.Q_slice HO_4.out;subst eo22;obtain ⟨Ao23,co23,eo23⟩:=Kd.R_slice HO271.out;subst eo23)|((with_reducible refine gate_callee (f:=22) rfl ?_);refine goesL_ (some 31) rfl rfl Tryd.func22 (by kernel_rfl) rfl #[.slice Ao22 t265.length co22,.slice Ao23 t269.length co23] rfl (by (try simp only [List.map_toArray,List.map_cons,List.map_nil]);first|done|rfl|(simp only [List.length_drop,List.length_take];rfl)) ?_;(with_reducible refine (pack_Take.calls _ _ t265 _ _ t269 t272 t273 t274 _ ?side1 ?side2 ?side3 ?side4 A19.out).mono ?_);(case side1=>repeat (first|exact (Kd.Q_reads' HO_4.out).2.2|(with_reducible refine Kd.C_alloc ?_ _)|(with_reducible refine Kd.C_drewN ?_ _)|(with_reducible refine Kd.C_drew ?_)));(case side2=>exact (Kd.Q_reads' HO_4.out).2.1);(case side3=>repeat (first|exact (Kd.R_reads' HO271.out).2.2|(with_reducible refine Kd.C_alloc ?_ _)|(with_reducible refine Kd.C_drewN ?_ _)|(with_reducible refine Kd.C_drew ?_)));(case side4=>exact (Kd.R_reads' HO271.out).2.1);rintro e w24 ⟨v275,rfl,ho0,hb⟩;refine ⟨_,rfl,?_⟩;have n0_:=A_ (Kd.Q_below (by (with_reducible repeat (first|apply Kd.Q_alloc|apply Kd.Q_drewN|apply Kd.Q_drew));exact HO_4.out) hb);have n1_:=A_ (Kd.R_below (by (with_reducible repeat (first|apply ra_|apply rn_|apply re_));exact HO271.out) hb);have n2_:=A_ (Kd.R_lower ho0 (bz_ (hb1_ HB.out GE257.out)));have n3_:=A_ (bx_ BK257.out kf_ hb);have n4_:=A_ (bp_ (hb1_ HB.out GE257.out) hb);clear HO_4;clear HO271;clear BK257;clear HB;have HO_4:=n0_;have HO271:=n1_;have HO276:=n2_;have BK257:=n3_;have HB:=n4_;clear n0_ n1_ n2_ n3_ n4_;(try clear hb);(try clear hb2);(try clear hk);(try clear hi);(try clear ho0)))
   (try simp only [Act.put,u1_,u2_,u3_])
   go_cut [50] (fun v50 wc=>∃ (kq : Nat) (x50_19 : Bool),v50=.bool x50_19∧Aside0 (table_Decode.j1 kq t272 x50_19=some (r1,r2,r3,r4,r5))∧Aside0 (kq≤kj11)∧Aside0 (Kd.R k51 51 wc w.heap.size (fun _=>True) v275 t272)∧Aside0 (wc.heap[gb257]?=some (.cells #[.int .i64 0,.int .i64 0,.int .i64 0,(.slice none 0 0)] 26 (0,0)))∧Aside0 (Below w.heap.size w wc))
   case first =>
    have H:=HC20.out;clear HC20
    by_cases c25 : t274=0
    rotate_left
    ·rw [if_neg c25] at H
     have c25b0 : (t274 == 0)=false:=beq_eq_false_iff_ne.mpr c25;have c25b1 : (t274 != 0)=true:=bne_iff_ne.mpr c25;(first|rw [c25b0]|(simp only [i64_w,i32_w];rw [c25b0])|skip);have H':=A_ H;clear H;go_wp2;go_meet
     case rel=>exact ⟨_,true,rfl,H',⟨by have:=HJ11.out;first|omega|exact Nat.le_refl _⟩,⟨by (with_reducible repeat (first|apply ra_|apply rn_|apply re_));exact HO276.out⟩,⟨by exact kk_ BK257.out⟩,⟨hb1_ HB.out GE257.out⟩⟩
    rw [if_pos c25] at H
    have c25b0 : (t274 == 0)=true:=beq_iff_eq.mpr c25;have c25b1 : (t274 != 0)=false:=bne_eq_false_iff_eq.mpr c25;clear c25;(first|rw [c25b0]|(simp only [i64_w,i32_w];rw [c25b0])|skip)
    by_cases c26 : 0<(t272.length : Int)
    rotate_left
    ·rw [if_neg c26] at H
     exact absurd H (by simp)
    rw [if_pos c26] at H
    have c26b0 : decide (0<(t272.length : Int))=true:=dt_ c26
    have c26b1 : decide (0<t272.length)=true:=dt_ (by omega)
    clear c26
    by_cases c27 : ((rd_T51 t272 0).f1)=84
    rotate_left
    ·rw [if_neg c27] at H
     have c27b0 : (((rd_T51 t272 0).f1) == 84)=false:=beq_eq_false_iff_ne.mpr c27;have c27b1 : (((rd_T51 t272 0).f1) != 84)=true:=bne_iff_ne.mpr c27;have H':=A_ H;clear H;obtain ⟨Ao34,co34,eo34⟩:=Kd.R_slice HO276.out;subst eo34
     have p277 : 0≤(0 : Int):=(by omega)
     have q277 : 0<(t272.length : Int):=od_ (by first|(with_reducible assumption)|assumption)
     obtain ⟨ad277,e277,hx277_0,hx277_1,hx277_2,hx277_3⟩:=at_T51 (Kd.R_reads' HO276.out).2.2 0 p277 q277
     cases e277
     have qi277 : (0<t272.length)=True:=eq_true (by omega)
     (try rw [N0_] at hx277_0)
     (try rw [show 0 * 4=0 from rfl] at hx277_0)
     (try rw [Addr.add_zero'] at hx277_0);(try rw [N0_] at hx277_1)
     (try rw [show 0 * 4=0 from rfl] at hx277_1)
     (try rw [Addr.add_zero'] at hx277_1);(try rw [N0_] at hx277_2)
     (try rw [show 0 * 4=0 from rfl] at hx277_2)
     (try rw [Addr.add_zero'] at hx277_2);(try rw [N0_] at hx277_3)
     (try rw [show 0 * 4=0 from rfl] at hx277_3)
     (try rw [Addr.add_zero'] at hx277_3);replace p277:=eq_true p277;replace q277:=eq_true q277;go_wp2;go_meet
     case rel=>exact ⟨_,true,rfl,H',⟨by have:=HJ11.out;first|omega|exact Nat.le_refl _⟩,⟨by (with_reducible repeat (first|apply ra_|apply rn_|apply re_));exact HO276.out⟩,⟨by exact kk_ BK257.out⟩,⟨hb1_ HB.out GE257.out⟩⟩
    rw [if_pos c27] at H
    have c27b0 : (((rd_T51 t272 0).f1) == 84)=true:=beq_iff_eq.mpr c27;have c27b1 : (((rd_T51 t272 0).f1) != 84)=false:=bne_eq_false_iff_eq.mpr c27;clear c27
    by_cases c28 : 0≤t273
    rotate_left
    ·rw [if_neg c28] at H
     exact absurd H (by simp)
    rw [if_pos c28] at H
    have c28b0:=eq_true c28;have c28b1 : decide (0≤t273)=true:=dt_ c28;clear c28
    by_cases c29 : t273≤(t265.length : Int)
    rotate_left
    ·rw [if_neg c29] at H
     exact absurd H (by simp)
    rw [if_pos c29] at H
    have c29b0:=eq_true c29;have c29b1 : decide (t273≤(t265.length : Int))=true:=dt_ c29;clear c29
    obtain ⟨y278,hy278⟩ : ∃ y_ : List Int,y_=(t265.drop (t273 : Int).toNat):=⟨_,rfl⟩
    replace H : ((table_nought.f kj11 y278).bind fun t282=>(table_Decode.j1 kj11 t272 (!t282)))=some (r1,r2,r3,r4,r5):=by first|(rw [hy278];with_reducible exact H)|(have H2_:=(Option.bind_some _ _).symm.trans H;rw [hy278];with_reducible exact H2_)|(have H2_:=(Option.bind_some _ _).symm.trans H;with_reducible exact H2_)|with_reducible exact H|(rw [hy278];exact H)|exact H
    have Ny278:=A_ hy278;clear hy278;replace H:=Option.bind_eq_some_iff.mp H;obtain ⟨t282,A300,H⟩:=H;replace H : (table_Decode.j1 kj11 t272 (!t282))=some (r1,r2,r3,r4,r5):=H;have A30:=A_ A300;clear A300;have H':=A_ H;clear H;obtain ⟨Ao31,co31,eo31⟩:=Kd.R_slice HO276.out;subst eo31
    have p277 : 0≤(0 : Int):=(by omega)
    have q277 : 0<(t272.length : Int):=od_ (by first|(with_reducible assumption)|assumption)
    obtain ⟨ad277,e277,hx277_0,hx277_1,hx277_2,hx277_3⟩:=at_T51 (Kd.R_reads' HO276.out).2.2 0 p277 q277
    cases e277
    have qi277 : (0<t272.length)=True:=eq_true (by omega)
    (try rw [N0_] at hx277_0)
    (try rw [show 0 * 4=0 from rfl] at hx277_0)
    (try rw [Addr.add_zero'] at hx277_0);(try rw [N0_] at hx277_1)
    (try rw [show 0 * 4=0 from rfl] at hx277_1)
    (try rw [Addr.add_zero'] at hx277_1);(try rw [N0_] at hx277_2)
    (try rw [show 0 * 4=0 from rfl] at hx277_2)
    (try rw [Addr.add_zero'] at hx277_2);(try rw [N0_] at hx277_3)
    (try rw [show 0 * 4=0 from rfl] at hx277_3)
    (try rw [Addr.add_zero'] at hx277_3);replace p277:=eq_true p277;replace q277:=eq_true q277
    have q32 : (t273 : Int)≤((t265.length : Int) : Int):=od_ (by first|(with_reducible assumption)|assumption)
    obtain ⟨i032,hi032,_,hsz32,_⟩:=info_parts info5;have hroom32 : t265.length≤co22:=(Kd.Q_reads' HO_4.out).2.1;have hC32 : Kd.C (Kd.int .u8) _ Ao22 t265.length t265:=(Kd.Q_reads' HO_4.out).2.2
    have q032 : (0 : Int)≤(t273 : Int):=od_ (by first|(with_reducible assumption)|assumption)
    have hcut32:=cut_from (P:=Tryd.prog) 22 5 .i64 Tryd.underlying22 hi032 1 hsz32 Ao22 t265.length co22 t273 q032 q32
    have hr32:=Kd.C_drop (m:=(t273 : Int).toNat) (c:=co22) hC32 (by omega) hroom32
    obtain ⟨A32,hA32⟩ : ∃ A1,A1=(if co22=(t273 : Int).toNat then Ao22 else (Ao22 : Option Addr).map (·.add ((t273 : Int).toNat * 1))):=⟨_,rfl⟩
    obtain ⟨c32,hc32⟩ : ∃ c1,c1=co22 - (t273 : Int).toNat:=⟨_,rfl⟩
    have hy32 : y278.length=t265.length - (t273 : Int).toNat:=(by rw [Ny278.out,List.length_drop] <;> omega)
    rw [show (t265).drop (t273 : Int).toNat=y278 from Ny278.out.symm] at hr32
    replace hr32 : Kd.C (Kd.int .u8) _ A32 y278.length y278:=(by rw [hA32];exact hr32)
    rw [← hy32,← hA32,← hc32] at hcut32;have HR281:=A_ hr32
    have HC281:=A_ (show y278.length≤c32 from by rw [hy32,hc32];exact Nat.sub_le_sub_right hroom32 _)
    clear hr32 hC32 hroom32 hi032 hsz32 hc32;have KY32:=A_ hy32;have KA32:=A_ hA32;clear hy32 hA32
    have KL32:=A_ (show (t273 : Int).toNat≤t265.length from by omega)
    replace q32:=eq_true q32
    go_wp2_with (first|(go_at_call 20;(with_reducible refine (table_nought.calls kj11 _ _ y278 t282 _ ?side1 ?side2 A30.out).mono ?_);(case side1=>repeat (first|exact (by repeat (first|(with_reducible exact HR281.out)|(with_reducible refine Kd.C_alloc ?_ _)|(with_reducible refine Kd.C_drewN ?_ _)|(with_reducible refine Kd.C_drew ?_)|exact HR281.out))|(with_reducible refine Kd.C_alloc ?_ _)|(with_reducible refine Kd.C_drewN ?_ _)|(with_reducible refine Kd.C_drew ?_)));(case side2=>exact HC281.out);rintro e w33 ⟨rfl,hb⟩;have n0_:=A_ (Kd.Q_below (by (with_reducible repeat (first|apply Kd.Q_alloc|apply Kd.Q_drewN|apply Kd.Q_drew));exact HO_4.out) hb);have n1_:=A_ (Kd.R_below (by (with_reducible repeat (first|apply ra_|apply rn_|apply re_));exact HO271.out) hb);have n2_:=A_ (Kd.R_below (by (with_reducible repeat (first|apply ra_|apply rn_|apply re_));exact HO276.out) hb);have n3_:=A_ (bx_ BK257.out kf_ hb);have n4_:=A_ (Kd.C_below (by repeat (first|(with_reducible exact HR281.out)|(with_reducible refine Kd.C_alloc ?_ _)|(with_reducible refine Kd.C_drewN ?_ _)|(with_reducible refine Kd.C_drew ?_)|exact HR281.out)) hb);have n5_:=A_ (bp_ (hb1_ HB.out GE257.out) hb);clear HO_4;clear HO271;clear HO276;clear BK257;clear HR281;clear HB;have HO_4:=n0_;have HO271:=n1_;have HO276:=n2_;have BK257:=n3_;have HR281:=n4_;have HB:=n5_;clear n0_ n1_ n2_ n3_ n4_ n5_;(try clear hb);(try clear hb2);(try clear hk);(try clear hi)))
    go_meet
    case rel=>exact ⟨_,(!t282),(by first|rfl|(simp;done)|(simp [*];done)),H',⟨by have:=HJ11.out;first|omega|exact Nat.le_refl _⟩,⟨by (with_reducible repeat (first|apply ra_|apply rn_|apply re_));exact HO276.out⟩,⟨by exact kk_ BK257.out⟩,⟨hb1_ HB.out GE257.out⟩⟩
   case rest =>
    clear HC20;(try clear c1);(try clear c2);(try clear c2b0);(try clear c2b1);(try clear p2);(try clear q2);(try clear hx2);(try clear qi2);(try clear c3);(try clear q3);(try clear c4);(try clear c6);(try clear c9);(try clear c16);(try clear c20);(try clear c21);(try clear c22);(try clear c23);(try clear c25);(try clear c25b0);(try clear c25b1);(try clear c26);(try clear c26b0);(try clear c26b1);(try clear c27);(try clear c27b0);(try clear c27b1);(try clear p27);(try clear q27);(try clear hx27);(try clear qi27);(try clear c28);(try clear c28b0);(try clear c28b1);(try clear c29);(try clear c29b0);(try clear c29b1);(try clear c32);(try clear q32);(try clear hx277_0);(try clear hx277_1);(try clear hx277_2);(try clear hx277_3);(try clear p2);(try clear p277);(try clear q032);(try clear q277);(try clear q32);(try clear z17_0 z17_1 z17_2 z17_3 z9_0 z9_1 z9_2 z9_3 y17_0 y17_1 y17_2 y17_3 y9_0 y9_1 y9_2 y9_3);obtain ⟨kq,x50_19,rfl,HA,HJ19,HO_6,BK257,HB⟩:=hcut
    cases kq with
    | zero=>exact absurd HA.out (by simp [table_Decode.j1])
    | succ kj19 =>
     have H:=HA.out;clear HA
     simp only [table_Decode.j1] at H
     by_cases c35 : x50_19=true
     ·subst c35
      have H1 : (some (0,0,0,([] : List (S56)),4))=some (r1,r2,r3,r4,r5):=by rw [if_pos rfl] at H;exact H
      clear H;have H:=H1;clear H1
      simp only [Option.some.injEq,Prod.mk.injEq] at H
      obtain ⟨rfl,rfl,rfl,rfl,rfl⟩:=H;obtain ⟨z36_0,z36_1,z36_2,z36_3⟩:=blkc_4 BK257.out;obtain ⟨y36_0,y36_1,y36_2,y36_3⟩:=blkz_4 BK257.out;go_wp2
      refine bodyPostR_ret (results_ct rfl _ _ gb257 26 #[.int .i64 0,.int .i64 0,.int .i64 0,.slice none 0 0] (0,0) _ rfl (by refine kk_ ?_;apply blkf_4_0_3;exact kk_ BK257.out) Tryd.underlying26 rfl (by kernel_rfl)) rfl ?_
      exact ⟨_,by first|rfl|(simp [errW_none,errW_some] <;> rfl)|(simp [*,errW_none,errW_some] <;> rfl),by first|exact Kd.R_nil _ _ _ _ _|exact Kd.N_nil _ _ _ _ _|exact Kd.V_nil _ _ _ _ _|exact Kd.Q_nil _ _ _ _ _|exact Kd.S_nil _ _ _ _ _,hb1_ HB.out GE257.out⟩
     replace c35:=Bool.eq_false_iff.mpr c35
     subst c35
     have H1 : (if 1<(t272.length : Int) then (if 2<(t272.length : Int) then (if 3<(t272.length : Int) then (if 4≤(t272.length : Int) then ((slices_Chunk_api_Item_api_Item.f (t272.drop 4) 4).bind fun t291=>((table_Check.f kj19 ((rd_T51 t272 1).f1) ((rd_T51 t272 2).f1) ((rd_T51 t272 3).f1) t291).bind fun t294=>(if t294=0 then (some ((rd_T51 t272 1).f1,(rd_T51 t272 2).f1,(rd_T51 t272 3).f1,t291,0)) else (some (0,0,0,([] : List (S56)),4))))) else (none)) else (none)) else (none)) else (none))=some (r1,r2,r3,r4,r5):=by rw [if_neg (show ¬ (false=true) by decide)] at H;exact H
     clear H;have H:=H1;clear H1
     by_cases c37 : 1<(t272.length : Int)
     rotate_left
     ·rw [if_neg c37] at H
      exact absurd H (by simp)
     rw [if_pos c37] at H
     have c37b0 : decide (1<(t272.length : Int))=true:=dt_ c37
     have c37b1 : decide (1<t272.length)=true:=dt_ (by omega)
     clear c37
     by_cases c38 : 2<(t272.length : Int)
     rotate_left
     ·rw [if_neg c38] at H
      exact absurd H (by simp)
     rw [if_pos c38] at H
     have c38b0 : decide (2<(t272.length : Int))=true:=dt_ c38
     have c38b1 : decide (2<t272.length)=true:=dt_ (by omega)
     clear c38
     by_cases c39 : 3<(t272.length : Int)
     rotate_left
     ·rw [if_neg c39] at H
      exact absurd H (by simp)
     rw [if_pos c39] at H
     have c39b0 : decide (3<(t272.length : Int))=true:=dt_ c39
     have c39b1 : decide (3<t272.length)=true:=dt_ (by omega)
     clear c39
     by_cases c40 : 4≤(t272.length : Int)
     rotate_left
     ·rw [if_neg c40] at H
      exact absurd H (by simp)
     rw [if_pos c40] at H
     have c40b0:=eq_true c40;have c40b1 : decide (4≤(t272.length : Int))=true:=dt_ c40;clear c40
     obtain ⟨y287,hy287⟩ : ∃ y_ : List (S51),y_=(t272.drop 4):=⟨_,rfl⟩
     replace H : ((slices_Chunk_api_Item_api_Item.f y287 4).bind fun t291=>((table_Check.f kj19 ((rd_T51 t272 1).f1) ((rd_T51 t272 2).f1) ((rd_T51 t272 3).f1) t291).bind fun t294=>(if t294=0 then (some ((rd_T51 t272 1).f1,(rd_T51 t272 2).f1,(rd_T51 t272 3).f1,t291,0)) else (some (0,0,0,([] : List (S56)),4)))))=some (r1,r2,r3,r4,r5):=by first|(rw [hy287];with_reducible exact H)|(have H2_:=(Option.bind_some _ _).symm.trans H;rw [hy287];with_reducible exact H2_)|(have H2_:=(Option.bind_some _ _).symm.trans H;with_reducible exact H2_)|with_reducible exact H|(rw [hy287];exact H)|exact H
     have Ny287:=A_ hy287;clear hy287;replace H:=Option.bind_eq_some_iff.mp H;obtain ⟨t291,A410,H⟩:=H
     replace H : ((table_Check.f kj19 ((rd_T51 t272 1).f1) ((rd_T51 t272 2).f1) ((rd_T51 t272 3).f1) t291).bind fun t294=>(if t294=0 then (some ((rd_T51 t272 1).f1,(rd_T51 t272 2).f1,(rd_T51 t272 3).f1,t291,0)) else (some (0,0,0,([] : List (S56)),4))))=some (r1,r2,r3,r4,r5):=H
     have A41:=A_ A410;clear A410;replace H:=Option.bind_eq_some_iff.mp H;obtain ⟨t294,A420,H⟩:=H
     replace H : (if t294=0 then (some ((rd_T51 t272 1).f1,(rd_T51 t272 2).f1,(rd_T51 t272 3).f1,t291,0)) else (some (0,0,0,([] : List (S56)),4)))=some (r1,r2,r3,r4,r5):=H
     have A42:=A_ A420;clear A420
     by_cases c43 : t294=0
     rotate_left
     ·rw [if_neg c43] at H
      have c43b0 : (t294 == 0)=false:=beq_eq_false_iff_ne.mpr c43;have c43b1 : (t294 != 0)=true:=bne_iff_ne.mpr c43
      simp only [Option.some.injEq,Prod.mk.injEq] at H
      obtain ⟨rfl,rfl,rfl,rfl,rfl⟩:=H
      try go_wp2
      have n0_:=A_ (re_ HO_6.out);have n1_:=A_ (ke_ BK257.out);have n2_:=A_ (be_ HB.out);clear HO_6;clear BK257;clear HB;have HO_6:=n0_;have BK257:=n1_;have HB:=n2_;clear n0_ n1_ n2_;obtain ⟨Ao61,co61,eo61⟩:=Kd.R_slice HO_6.out
      (first|subst eo61|(injection eo61 with f1_ f2_ f3_;have f4_:=f1_.symm;have f5_:=f3_.symm;clear f1_ f2_ f3_;subst f4_;subst f5_))
      have p283 : 0≤(1 : Int):=(by omega)
      have q283 : 1<(t272.length : Int):=od_ (by first|(with_reducible assumption)|assumption)
      obtain ⟨ad283,e283,hx283_0,hx283_1,hx283_2,hx283_3⟩:=at_T51 (Kd.R_reads' HO_6.out).2.2 1 p283 q283
      cases e283
      (try simp only [N1_,Nat.reduceMul,Nat.reduceEqDiff,Go.Addr.add,↓reduceIte] at hx283_0 hx283_1 hx283_2 hx283_3)
      have qi283 : (1<t272.length)=True:=eq_true (by omega)
      replace p283:=eq_true p283;replace q283:=eq_true q283
      have p284 : 0≤(2 : Int):=(by omega)
      have q284 : 2<(t272.length : Int):=od_ (by first|(with_reducible assumption)|assumption)
      obtain ⟨ad284,e284,hx284_0,hx284_1,hx284_2,hx284_3⟩:=at_T51 (Kd.R_reads' HO_6.out).2.2 2 p284 q284
      obtain rfl : ad283=ad284:=(by injection e284)
      (try simp only [N2_,Nat.reduceMul,Nat.reduceEqDiff,Go.Addr.add,↓reduceIte] at hx284_0 hx284_1 hx284_2 hx284_3)
      have qi284 : (2<t272.length)=True:=eq_true (by omega)
      replace p284:=eq_true p284;replace q284:=eq_true q284
      have p285 : 0≤(3 : Int):=(by omega)
      have q285 : 3<(t272.length : Int):=od_ (by first|(with_reducible assumption)|assumption)
      obtain ⟨ad285,e285,hx285_0,hx285_1,hx285_2,hx285_3⟩:=at_T51 (Kd.R_reads' HO_6.out).2.2 3 p285 q285
      obtain rfl : ad283=ad285:=(by injection e285)
      (try simp only [N3_,Nat.reduceMul,Nat.reduceEqDiff,Go.Addr.add,↓reduceIte] at hx285_0 hx285_1 hx285_2 hx285_3)
      have qi285 : (3<t272.length)=True:=eq_true (by omega)
      replace p285:=eq_true p285;replace q285:=eq_true q285
      refine start_ (n:=15) (S:=fun w'=>w'.cell? ⟨ad283.block,ad283.off + 4,none⟩=some (.int .i64 ((rd_T51 t272 1).f0))∧w'.cell? ⟨ad283.block,ad283.off + 4 + 1,none⟩=some (.int .i64 ((rd_T51 t272 1).f1))∧w'.cell? ⟨ad283.block,ad283.off + 4 + 2,none⟩=some (.float .f64 ((rd_T51 t272 1).f2))∧w'.cell? ⟨ad283.block,ad283.off + 4 + 3,none⟩=some (.string ((rd_T51 t272 1).f3))∧w'.cell? ⟨ad283.block,ad283.off + 8,none⟩=some (.int .i64 ((rd_T51 t272 2).f0))∧w'.cell? ⟨ad283.block,ad283.off + 8 + 1,none⟩=some (.int .i64 ((rd_T51 t272 2).f1))∧w'.cell? ⟨ad283.block,ad283.off + 8 + 2,none⟩=some (.float .f64 ((rd_T51 t272 2).f2))∧w'.cell? ⟨ad283.block,ad283.off + 8 + 3,none⟩=some (.string ((rd_T51 t272 2).f3))∧w'.cell? ⟨ad283.block,ad283.off + 12,none⟩=some (.int .i64 ((rd_T51 t272 3).f0))∧w'.cell? ⟨ad283.block,ad283.off + 12 + 1,none⟩=some (.int .i64 ((rd_T51 t272 3).f1))∧w'.cell? ⟨ad283.block,ad283.off + 12 + 2,none⟩=some (.float .f64 ((rd_T51 t272 3).f2))∧w'.cell? ⟨ad283.block,ad283.off + 12 + 3,none⟩=some (.string ((rd_T51 t272 3).f3))) (ds:=[14]) #[Z,Z,Z,Z,Z,Z,Z,Z,Z,Z,Z,Z,Z,Z,Z] (by kernel_rfl) rfl rfl ⟨hx283_0,hx283_1,hx283_2,hx283_3,hx284_0,hx284_1,hx284_2,hx284_3,hx285_0,hx285_1,hx285_2,hx285_3⟩ (fun hHeld=>?_);refine with_tabW table_Decode.tab11 table_Decode.bits11 (fun HT_ HW_=>?_)
      generalize wc.drew=w60 at HO_6 BK257 HB hx283_0 hx283_1 hx283_2 hx283_3 hx284_0 hx284_1 hx284_2 hx284_3 hx285_0 hx285_1 hx285_2 hx285_3 hHeld ⊢
      refine pu_ (i:=0) (N:=some 52) (v:=?_) (a':=?_) #[Y,Z,Z,Z,Z,Z,Z,Z,Z,Z,Z,Z,Z,Z,Z] rfl rfl HT_.out (by kernel_rfl) (fun _ _ _ h=>h) (by rfl) ?_ ?_ ?_;rotate_left;(intro w';go_simp;with_reducible rfl);rotate_left;(simp only [Act.put,q1_,q2_,q3_,i64_w,i32_w];rfl)
      refine pu_ (i:=1) (N:=some 53) (v:=?_) (a':=?_) #[Y,Y,Z,Z,Z,Z,Z,Z,Z,Z,Z,Z,Z,Z,Z] rfl rfl HT_.out (by kernel_rfl) (fun _ _ _ h=>h) (by rfl) ?_ ?_ ?_;rotate_left;(intro w';go_simp;with_reducible rfl);rotate_left;(simp only [Act.put,q1_,q2_,q3_,i64_w,i32_w];rfl)
      refine pu_ (i:=2) (N:=some 54) (v:=?_) (a':=?_) #[Y,Y,Y,Z,Z,Z,Z,Z,Z,Z,Z,Z,Z,Z,Z] rfl rfl HT_.out (by kernel_rfl) (fun _ _ _ h=>h) (by rfl) ?_ ?_ ?_;rotate_left;(intro w';go_simp;with_reducible rfl);rotate_left;(simp only [Act.put,q1_,q2_,q3_,i64_w,i32_w];rfl)
      refine pu_ (i:=4) (N:=some 56) (v:=?_) (a':=?_) #[Y,Y,Y,Z,Y,Z,Z,Z,Z,Z,Z,Z,Z,Z,Z] rfl rfl HT_.out (by kernel_rfl) (fun _ _ _ h=>h) (by rfl) ?_ ?_ ?_;rotate_left;(intro w';go_simp;with_reducible rfl);rotate_left;(simp only [Act.put,q1_,q2_,q3_,i64_w,i32_w];rfl)
      refine pu_ (i:=5) (N:=some 57) (v:=?_) (a':=?_) #[Y,Y,Y,Z,Y,Y,Z,Z,Z,Z,Z,Z,Z,Z,Z] rfl rfl HT_.out (by kernel_rfl) (fun _ _ _ h=>h) (by rfl) ?_ ?_ ?_;rotate_left;(intro w';go_simp;with_reducible rfl);rotate_left;(simp only [Act.put,q1_,q2_,q3_,i64_w,i32_w];rfl)
      refine pu_ (i:=6) (N:=some 58) (v:=?_) (a':=?_) #[Y,Y,Y,Z,Y,Y,Y,Z,Z,Z,Z,Z,Z,Z,Z] rfl rfl HT_.out (by kernel_rfl) (fun _ _ _ h=>h) (by rfl) ?_ ?_ ?_;rotate_left;(intro w';go_simp;with_reducible rfl);rotate_left;(simp only [Act.put,q1_,q2_,q3_,i64_w,i32_w];rfl)
      refine pu_ (i:=8) (N:=some 60) (v:=?_) (a':=?_) #[Y,Y,Y,Z,Y,Y,Y,Z,Y,Z,Z,Z,Z,Z,Z] rfl rfl HT_.out (by kernel_rfl) (fun _ _ _ h=>h) (by rfl) ?_ ?_ ?_;rotate_left;(intro w';go_simp;with_reducible rfl);rotate_left;(simp only [Act.put,q1_,q2_,q3_,i64_w,i32_w];rfl)
      refine pu_ (i:=9) (N:=some 61) (v:=?_) (a':=?_) #[Y,Y,Y,Z,Y,Y,Y,Z,Y,Y,Z,Z,Z,Z,Z] rfl rfl HT_.out (by kernel_rfl) (fun _ _ _ h=>h) (by rfl) ?_ ?_ ?_;rotate_left;(intro w';go_simp;with_reducible rfl);rotate_left;(simp only [Act.put,q1_,q2_,q3_,i64_w,i32_w];rfl)
      refine pu_ (i:=10) (N:=some 62) (v:=?_) (a':=?_) #[Y,Y,Y,Z,Y,Y,Y,Z,Y,Y,Y,Z,Z,Z,Z] rfl rfl HT_.out (by kernel_rfl) (fun _ _ _ h=>h) (by rfl) ?_ ?_ ?_;rotate_left;(intro w';go_simp;with_reducible rfl);rotate_left;(simp only [Act.put,q1_,q2_,q3_,i64_w,i32_w];rfl)
      refine ta_ (i:=3) (N:=some 55) (v:=?_) (a':=?_) #[Y,Y,Y,Y,Y,Y,Y,Z,Y,Y,Y,Z,Z,Z,Z] rfl rfl HT_.out HW_.out (by kernel_rfl) (fun _ _ _ h=>h) (by rfl) ?_ hHeld ?_ ?_;rotate_left;(rintro w' ⟨s0,s1,s2,s3,s4,s5,s6,s7,s8,s9,s10,s11⟩;go_simp;with_reducible rfl);rotate_left;(simp only [Act.put,q1_,q2_,q3_,i64_w,i32_w];rfl)
      refine ta_ (i:=7) (N:=some 59) (v:=?_) (a':=?_) #[Y,Y,Y,Y,Y,Y,Y,Y,Y,Y,Y,Z,Z,Z,Z] rfl rfl HT_.out HW_.out (by kernel_rfl) (fun _ _ _ h=>h) (by rfl) ?_ hHeld ?_ ?_;rotate_left;(rintro w' ⟨s0,s1,s2,s3,s4,s5,s6,s7,s8,s9,s10,s11⟩;go_simp;with_reducible rfl);rotate_left;(simp only [Act.put,q1_,q2_,q3_,i64_w,i32_w];rfl)
      refine ta_ (i:=11) (N:=some 63) (v:=?_) (a':=?_) #[Y,Y,Y,Y,Y,Y,Y,Y,Y,Y,Y,Y,Z,Z,Z] rfl rfl HT_.out HW_.out (by kernel_rfl) (fun _ _ _ h=>h) (by rfl) ?_ hHeld ?_ ?_;rotate_left;(rintro w' ⟨s0,s1,s2,s3,s4,s5,s6,s7,s8,s9,s10,s11⟩;go_simp;with_reducible rfl);rotate_left;(simp only [Act.put,q1_,q2_,q3_,i64_w,i32_w];rfl)
      refine pu_ (i:=12) (N:=some 64) (v:=?_) (a':=?_) #[Y,Y,Y,Y,Y,Y,Y,Y,Y,Y,Y,Y,Y,Z,Z] rfl rfl HT_.out (by kernel_rfl) (fun _ _ _ h=>h) (by rfl) ?_ ?_ ?_;rotate_left;(intro w';go_simp;with_reducible rfl);rotate_left;(simp only [Act.put,q1_,q2_,q3_,i64_w,i32_w];rfl)
      refine one_ (i:=13) (N:=some 8) #[Y,Y,Y,Y,Y,Y,Y,Y,Y,Y,Y,Y,Y,Y,Z] rfl rfl (one_of HT_.out (by kernel_rfl)) (by decide) (fun K hK=>?_)
      refine box_step ?hg (N:=8) ?hd (cs:=#[.int .i64 0,.int .i64 0,.int .i64 0,.slice none 0 0]) (t:=26) ?hr ?_;(case hd=>rfl);(case hg=>rfl);(case hr=>first|(go_simp;done)|(go_simp;rfl))
      intro gb286 hg w62 hbox hb;have HS0_:=(hb.cell (wb_ _ _ (hHeld.1))).trans (hHeld.1);have HS1_:=(hb.cell (wb_ _ _ (hHeld.2.1))).trans (hHeld.2.1);have HS2_:=(hb.cell (wb_ _ _ (hHeld.2.2.1))).trans (hHeld.2.2.1);have HS3_:=(hb.cell (wb_ _ _ (hHeld.2.2.2.1))).trans (hHeld.2.2.2.1);have HS4_:=(hb.cell (wb_ _ _ (hHeld.2.2.2.2.1))).trans (hHeld.2.2.2.2.1);have HS5_:=(hb.cell (wb_ _ _ (hHeld.2.2.2.2.2.1))).trans (hHeld.2.2.2.2.2.1);have HS6_:=(hb.cell (wb_ _ _ (hHeld.2.2.2.2.2.2.1))).trans (hHeld.2.2.2.2.2.2.1);have HS7_:=(hb.cell (wb_ _ _ (hHeld.2.2.2.2.2.2.2.1))).trans (hHeld.2.2.2.2.2.2.2.1);have HS8_:=(hb.cell (wb_ _ _ (hHeld.2.2.2.2.2.2.2.2.1))).trans (hHeld.2.2.2.2.2.2.2.2.1);have HS9_:=(hb.cell (wb_ _ _ (hHeld.2.2.2.2.2.2.2.2.2.1))).trans (hHeld.2.2.2.2.2.2.2.2.2.1);have HS10_:=(hb.cell (wb_ _ _ (hHeld.2.2.2.2.2.2.2.2.2.2.1))).trans (hHeld.2.2.2.2.2.2.2.2.2.2.1);have HS11_:=(hb.cell (wb_ _ _ (hHeld.2.2.2.2.2.2.2.2.2.2.2))).trans (hHeld.2.2.2.2.2.2.2.2.2.2.2)
      have n0_:=A_ (Kd.R_below (by (with_reducible repeat (first|apply ra_|apply rn_|apply re_));exact HO_6.out) hb)
      have n1_:=A_ (bx_ BK257.out kf_ hb);have n2_:=A_ (bp_ (hb1_ HB.out GE257.out) hb);have n3_:=A_ (hbox)
      have n4_:=A_ ((by rw [hg];exact (bz_ (hb1_ HB.out GE257.out)) : w.heap.size≤gb286))
      have n5_:=n4_
      have n6_:=A_ ((by rw [hg];exact Nat.ne_of_lt (bl_ BK257.out kf_) : gb257≠gb286))
      have n7_:=A_ (Ne.symm n6_.out);clear HO_6;clear BK257;clear HB;have HO_6:=n0_;have BK257:=n1_;have HB:=n2_;have BK286:=n3_;have GW286:=n4_;have GE286:=n5_;have NB257_286:=n6_;have NB286_257:=n7_;clear n0_ n1_ n2_ n3_ n4_ n5_ n6_ n7_;clear hb hbox hg
      refine hK.out _ _ ⟨HS0_,HS1_,HS2_,HS3_,HS4_,HS5_,HS6_,HS7_,HS8_,HS9_,HS10_,HS11_⟩ (fun hHeld=>?_)
      clear hK K
      refine norm_ (a':=?_) ?_ ?_;rotate_left;(show Act.put _ (some 8) _=_;simp only [Act.put,q1_,q2_,q3_,i64_w,i32_w];rfl)
      refine last_ (i:=14) (N:=none) #[Y,Y,Y,Y,Y,Y,Y,Y,Y,Y,Y,Y,Y,Y,Y] rfl rfl (one_of HT_.out (by kernel_rfl)) (by decide) (fun K hK=>?_)
      have hs63 : w62.cell? ⟨gb286,0,none⟩=some (.int .i64 0):=(bc_ BK286.out 0).trans rfl;have hfs63:=bf_ BK286.out 0;have hns63_0:=NB257_286.out;have hms63_0:=NB286_257.out;have hs64 : w62.cell? ⟨gb286,1,none⟩=some (.int .i64 0):=(bc_ BK286.out 1).trans rfl;have hfs64:=bf_ BK286.out 1;have hns64_0:=NB257_286.out;have hms64_0:=NB286_257.out;have hs65 : w62.cell? ⟨gb286,2,none⟩=some (.int .i64 0):=(bc_ BK286.out 2).trans rfl;have hfs65:=bf_ BK286.out 2;have hns65_0:=NB257_286.out;have hms65_0:=NB286_257.out;have hs66 : w62.cell? ⟨gb286,3,none⟩=some (.slice none 0 0):=(bc_ BK286.out 3).trans rfl;have hfs66:=bf_ BK286.out 3;have hns66_0:=NB257_286.out;have hms66_0:=NB286_257.out
      refine skip_ (w1:=?_) (by rfl) rfl ?_ ?_
      rotate_left
      ·go_simp
       rfl
      refine hK.out _ _ ?_;clear hK K;refine done_ (done_of HT_.out (by kernel_rfl)) ?_
      have n0_ : Aside0 (Kd.R k51 51 ((((w62.setCell ⟨gb286,0,none⟩ (.int .i64 ((rd_T51 t272 1).f1))).setCell ⟨gb286,1,none⟩ (.int .i64 ((rd_T51 t272 2).f1))).setCell ⟨gb286,2,none⟩ (.int .i64 ((rd_T51 t272 3).f1))).setCell ⟨gb286,3,none⟩ (.slice none 0 0)) w.heap.size (fun _=>True) (.slice (some ad283) t272.length co61) t272):=⟨by (with_reducible repeat (first|apply ra_|apply rn_|apply re_));exact Kd.R_mono (rf_ (p:=⟨gb286,3,none⟩) (rf_ (p:=⟨gb286,2,none⟩) (rf_ (p:=⟨gb286,1,none⟩) (rf_ (p:=⟨gb286,0,none⟩) (Kd.R_types HO_6.out BK286.out (by decide)) (fun _ hk=>hk.2) (.int .i64 ((rd_T51 t272 1).f1))) (fun _ hk=>hk.2) (.int .i64 ((rd_T51 t272 2).f1))) (fun _ hk=>hk.2) (.int .i64 ((rd_T51 t272 3).f1))) (fun _ hk=>hk.2) (.slice none 0 0)) (fun _ hk=>trivial)⟩
      have n1_ : Aside0 (((((w62.setCell ⟨gb286,0,none⟩ (.int .i64 ((rd_T51 t272 1).f1))).setCell ⟨gb286,1,none⟩ (.int .i64 ((rd_T51 t272 2).f1))).setCell ⟨gb286,2,none⟩ (.int .i64 ((rd_T51 t272 3).f1))).setCell ⟨gb286,3,none⟩ (.slice none 0 0)).heap[gb257]?=some (.cells #[.int .i64 0,.int .i64 0,.int .i64 0,.slice none 0 0] 26 (0,0))):=⟨by refine kk_ ?_;refine blk_far ?_ NB257_286.out _;refine kk_ ?_;refine blk_far ?_ NB257_286.out _;refine kk_ ?_;refine blk_far ?_ NB257_286.out _;refine kk_ ?_;refine blk_far ?_ NB257_286.out _;exact kk_ BK257.out⟩
      have n2_ : Aside0 (((((w62.setCell ⟨gb286,0,none⟩ (.int .i64 ((rd_T51 t272 1).f1))).setCell ⟨gb286,1,none⟩ (.int .i64 ((rd_T51 t272 2).f1))).setCell ⟨gb286,2,none⟩ (.int .i64 ((rd_T51 t272 3).f1))).setCell ⟨gb286,3,none⟩ (.slice none 0 0)).heap[gb286]?=some (.cells #[.int .i64 ((rd_T51 t272 1).f1),.int .i64 ((rd_T51 t272 2).f1),.int .i64 ((rd_T51 t272 3).f1),.slice none 0 0] 26 (0,0))):=⟨by refine kk_ ?_;apply blkf_4_0_3;exact kk_ BK286.out⟩
      have n3_ : Aside0 (Below w.heap.size w ((((w62.setCell ⟨gb286,0,none⟩ (.int .i64 ((rd_T51 t272 1).f1))).setCell ⟨gb286,1,none⟩ (.int .i64 ((rd_T51 t272 2).f1))).setCell ⟨gb286,2,none⟩ (.int .i64 ((rd_T51 t272 3).f1))).setCell ⟨gb286,3,none⟩ (.slice none 0 0))):=⟨hb2_ HB.out GE257.out GE286.out⟩;(try clear HO_6);(try clear BK257);(try clear BK286);(try clear HB)
      generalize ((((w62.setCell ⟨gb286,0,none⟩ (.int .i64 ((rd_T51 t272 1).f1))).setCell ⟨gb286,1,none⟩ (.int .i64 ((rd_T51 t272 2).f1))).setCell ⟨gb286,2,none⟩ (.int .i64 ((rd_T51 t272 3).f1))).setCell ⟨gb286,3,none⟩ (.slice none 0 0))=w67 at n0_ n1_ n2_ n3_ ⊢
      have HO_6:=n0_;have BK257:=n1_;have BK286:=n2_;have HB:=n3_;clear n0_ n1_ n2_ n3_
      have q68 : (4 : Int)≤((t272.length : Int) : Int):=od_ (by first|(with_reducible assumption)|assumption)
      obtain ⟨i068,hi068,_,hsz68,_⟩:=info_parts info51;have hroom68 : t272.length≤co61:=(Kd.R_reads' HO_6.out).2.1;have hC68 : Kd.C k51 _ (some ad283) t272.length t272:=(Kd.R_reads' HO_6.out).2.2
      have hcut68:=cut_from (P:=Tryd.prog) 45 51 .i64 Tryd.underlying45 hi068 4 hsz68 (some ad283) t272.length co61 4 (by omega) q68
      have hr68:=Kd.C_drop (m:=(4 : Int).toNat) (c:=co61) hC68 (by omega) hroom68
      obtain ⟨A68,hA68⟩ : ∃ A1,A1=(if co61=(4 : Int).toNat then (some ad283) else ((some ad283) : Option Addr).map (·.add ((4 : Int).toNat * 4))):=⟨_,rfl⟩
      obtain ⟨c68,hc68⟩ : ∃ c1,c1=co61 - (4 : Int).toNat:=⟨_,rfl⟩
      have hy68 : y287.length=t272.length - (4 : Int).toNat:=(by rw [Ny287.out,List.length_drop] <;> omega)
      rw [show (t272).drop (4 : Int).toNat=y287 from Ny287.out.symm] at hr68
      replace hr68 : Kd.C k51 _ A68 y287.length y287:=(by rw [hA68];exact hr68)
      rw [← hy68,← hA68,← hc68] at hcut68;have HR290:=A_ hr68
      have HC290:=A_ (show y287.length≤c68 from by rw [hy68,hc68];exact Nat.sub_le_sub_right hroom68 _)
      clear hr68 hC68 hroom68 hi068 hsz68 hc68;have KY68:=A_ hy68;have KA68:=A_ hA68;clear hy68 hA68
      have KL68:=A_ (show 4≤t272.length from by omega)
      replace q68:=eq_true q68;obtain ⟨N_,hN0_,hN1_,hN2_,hE_⟩:=chunk_f A41.out
      obtain ⟨ad_,hA_,_⟩:=HR290.out.2.2 (by omega)
      subst hA_;have HN1_:=A_ hN1_;have HE_:=A_ hE_;have HN2_:=A_ hN2_;clear hN1_ hE_ hN2_;have hgl_:=blk_lt BK286.out;have hgl0_:=blk_lt BK257.out;have hbs0_:=bz_ HB.out
      try go_wp2_with ((with_reducible refine gate_callee (f:=24) rfl ?_);refine goesL_ (some 67) rfl rfl Tryd.func24 (by kernel_rfl) rfl #[.slice (some ad_) y287.length c68,.int .i64 4] rfl (by (try simp only [List.map_toArray,List.map_cons,List.map_nil]);first|done|rfl|(simp only [List.length_drop,List.length_take];rfl)) ?_;(with_reducible refine (Chunk_any (some ad_) y287.length c68 _).mono ?_);rintro e wl_ ⟨cbs_,cbn_,rfl,hbs_,hbn_,hbs1_,hbs2_,hbn1_,hbn2_,hb⟩;refine ⟨_,rfl,?_⟩;have n0_:=A_ (Kd.R_below (by (with_reducible repeat (first|apply ra_|apply rn_|apply re_));exact HO_6.out) hb);have n2_:=A_ (bb_ (by exact BK257.out) hb);have n3_:=A_ (bb_ (by exact BK286.out) hb);have n5_:=A_ (bp_ (hb2_ HB.out GE257.out GE286.out) hb);have n6_:=A_ (Kd.C_below (by exact HR290.out) hb);have hbz_:=hb.size;clear HO_6;clear BK257;clear BK286;clear HB;clear HR290;have HO_6:=n0_;have BK257:=n2_;have BK286:=n3_;have HB:=n5_;have HR290:=n6_;clear n0_ n2_ n3_ n5_ n6_;clear hb)
      have hcA_:=HC290.out;have hN1_:=HN1_.out;have hE_:=HE_.out;have hN2_:=HN2_.out;clear HN1_ HE_ HN2_;rw [hN1_] at hbs_ hcA_
      refine range_four cbs_ cbn_ ad_ c68 N_ gb286 _ _ _ (fun x_=>chE y287 x_.1) hcA_ hN2_ rfl rfl hbs_ hbn_ (by omega) (by omega) BK286.out (fun x_ W_=>chP y287 ad_ x_.1 W_) ?hP2 (a₁:=?ax2) ?assign2 ?body2 ?done2
      case hP2 =>
       intro x_ W_ hk_
       have h1_ : Kd.R k51 51 W_ w.heap.size (fun _=>True) (.slice (some ad283) t272.length _) t272:=Kd.R_mono (Kd.R_keep (Kd.R_types HO_6.out BK286.out (by decide)) hk_ (fun _ h_=>h_.2)) (fun _ _=>trivial)
       have h2_:=(Kd.R_reads' h1_).2.2
       have h3_:=Kd.C_drop (m:=(4 : Int).toNat) (c:=_) h2_ (by have:=KL68.out;omega) (Kd.R_reads' h1_).2.1
       rw [show (t272).drop (4 : Int).toNat=y287 from Ny287.out.symm] at h3_
       exact chP_of hN1_ (by rw [KA68.out];exact h3_) x_
      case assign2 =>
       intro l_ x_ W_ K_ hK_
       gi_wp2
       exact hK_
      case body2 =>
       intro l_ x_ W_ u_ xs_ hP_ hB_ hl_ hbk_ hR_;obtain ⟨s1_,s2_,s3_,s4_⟩:=hP_
       obtain ⟨B_,hB0_⟩ : ∃ B_,B_=wl_.heap.size:=⟨_,rfl⟩
       rw [← hB0_] at hB_ hR_ ⊢;have hE1_ : chE y287 x_.1=⟨_,_,_,_⟩:=rfl;rw [hE1_];clear hE1_
       generalize Addr.add ad_ (4 * x_.1 * 4)=adx_ at s1_ s2_ s3_ s4_ ⊢
       generalize (rd_T51 y287 ((4 * x_.1 : Nat) : Int)).f1=v0_ at s1_ s2_ s3_ s4_ ⊢
       generalize (rd_T51 y287 ((4 * x_.1 + 1 : Nat) : Int)).f1=v1_ at s1_ s2_ s3_ s4_ ⊢
       generalize (rd_T51 y287 ((4 * x_.1 + 2 : Nat) : Int)).f1=v2_ at s1_ s2_ s3_ s4_ ⊢
       generalize (rd_T51 y287 ((4 * x_.1 + 3 : Nat) : Int)).f1=v3_ at s1_ s2_ s3_ s4_ ⊢
       have HRB_:=A_ (re_ hR_);have BKB_:=A_ (ke_ hbk_);have HB_ : Aside0 (B_≤W_.drew.heap.size):=⟨hB_⟩;clear hR_ hbk_;replace s1_:=(cell_drew_own W_ _).trans s1_;replace s2_:=(cell_drew_own W_ _).trans s2_;replace s3_:=(cell_drew_own W_ _).trans s3_;replace s4_:=(cell_drew_own W_ _).trans s4_
       gi_wp2
       refine startR_ (n:=23) (S:=fun w'=>w'.cell? ⟨gb286,3,none⟩=some (u_)∧w'.cell? ⟨adx_.block,adx_.off + 1,none⟩=some (.int .i64 v0_)∧w'.cell? ⟨adx_.block,adx_.off + 4 + 1,none⟩=some (.int .i64 v1_)∧w'.cell? ⟨adx_.block,adx_.off + 8 + 1,none⟩=some (.int .i64 v2_)∧w'.cell? ⟨adx_.block,adx_.off + 12 + 1,none⟩=some (.int .i64 v3_)) (ds:=[20,22]) #[Z,Z,Z,Z,Z,Z,Z,Z,Z,Z,Z,Z,Z,Z,Z,Z,Z,Z,Z,Z,Z,Z,Z] (by kernel_rfl) rfl rfl (by rintro ⟨_,_,e_,_⟩;cases e_) (by kernel_rfl) ⟨(bc_ BKB_.out 3).trans rfl,s1_,s2_,s3_,s4_⟩ (fun hHeld=>?_);refine with_tabW table_Decode.tab14 table_Decode.bits14 (fun HT_ HW_=>?_)
       generalize hwd_ : W_.drew=wd_ at HRB_ BKB_ HB_ s1_ s2_ s3_ s4_ hHeld ⊢
       refine pu_ (i:=0) (N:=some 69) (v:=?_) (a':=?_) #[Y,Z,Z,Z,Z,Z,Z,Z,Z,Z,Z,Z,Z,Z,Z,Z,Z,Z,Z,Z,Z,Z,Z] rfl rfl HT_.out (by kernel_rfl) (fun _ _ _ h=>h) (by rfl) ?_ ?_ ?_;rotate_left;(intro w';go_simp;with_reducible rfl);rotate_left;(simp only [Act.put,q1_,q2_,q3_,i64_w,i32_w];rfl)
       refine pu_ (i:=2) (N:=some 71) (v:=?_) (a':=?_) #[Y,Z,Y,Z,Z,Z,Z,Z,Z,Z,Z,Z,Z,Z,Z,Z,Z,Z,Z,Z,Z,Z,Z] rfl rfl HT_.out (by kernel_rfl) (fun _ _ _ h=>h) (by rfl) ?_ ?_ ?_;rotate_left;(intro w';go_simp;with_reducible rfl);rotate_left;(simp only [Act.put,q1_,q2_,q3_,i64_w,i32_w];rfl)
       refine pu_ (i:=3) (N:=some 72) (v:=?_) (a':=?_) #[Y,Z,Y,Y,Z,Z,Z,Z,Z,Z,Z,Z,Z,Z,Z,Z,Z,Z,Z,Z,Z,Z,Z] rfl rfl HT_.out (by kernel_rfl) (fun _ _ _ h=>h) (by rfl) ?_ ?_ ?_;rotate_left;(intro w';go_simp;with_reducible rfl);rotate_left;(simp only [Act.put,q1_,q2_,q3_,i64_w,i32_w];rfl)
       refine pu_ (i:=4) (N:=some 73) (v:=?_) (a':=?_) #[Y,Z,Y,Y,Y,Z,Z,Z,Z,Z,Z,Z,Z,Z,Z,Z,Z,Z,Z,Z,Z,Z,Z] rfl rfl HT_.out (by kernel_rfl) (fun _ _ _ h=>h) (by rfl) ?_ ?_ ?_;rotate_left;(intro w';go_simp;with_reducible rfl);rotate_left;(simp only [Act.put,q1_,q2_,q3_,i64_w,i32_w];rfl)
       refine pu_ (i:=6) (N:=some 75) (v:=?_) (a':=?_) #[Y,Z,Y,Y,Y,Z,Y,Z,Z,Z,Z,Z,Z,Z,Z,Z,Z,Z,Z,Z,Z,Z,Z] rfl rfl HT_.out (by kernel_rfl) (fun _ _ _ h=>h) (by rfl) ?_ ?_ ?_;rotate_left;(intro w';go_simp;with_reducible rfl);rotate_left;(simp only [Act.put,q1_,q2_,q3_,i64_w,i32_w];rfl)
       refine pu_ (i:=7) (N:=some 76) (v:=?_) (a':=?_) #[Y,Z,Y,Y,Y,Z,Y,Y,Z,Z,Z,Z,Z,Z,Z,Z,Z,Z,Z,Z,Z,Z,Z] rfl rfl HT_.out (by kernel_rfl) (fun _ _ _ h=>h) (by rfl) ?_ ?_ ?_;rotate_left;(intro w';go_simp;with_reducible rfl);rotate_left;(simp only [Act.put,q1_,q2_,q3_,i64_w,i32_w];rfl)
       refine pu_ (i:=8) (N:=some 77) (v:=?_) (a':=?_) #[Y,Z,Y,Y,Y,Z,Y,Y,Y,Z,Z,Z,Z,Z,Z,Z,Z,Z,Z,Z,Z,Z,Z] rfl rfl HT_.out (by kernel_rfl) (fun _ _ _ h=>h) (by rfl) ?_ ?_ ?_;rotate_left;(intro w';go_simp;with_reducible rfl);rotate_left;(simp only [Act.put,q1_,q2_,q3_,i64_w,i32_w];rfl)
       refine pu_ (i:=10) (N:=some 79) (v:=?_) (a':=?_) #[Y,Z,Y,Y,Y,Z,Y,Y,Y,Z,Y,Z,Z,Z,Z,Z,Z,Z,Z,Z,Z,Z,Z] rfl rfl HT_.out (by kernel_rfl) (fun _ _ _ h=>h) (by rfl) ?_ ?_ ?_;rotate_left;(intro w';go_simp;with_reducible rfl);rotate_left;(simp only [Act.put,q1_,q2_,q3_,i64_w,i32_w];rfl)
       refine pu_ (i:=11) (N:=some 80) (v:=?_) (a':=?_) #[Y,Z,Y,Y,Y,Z,Y,Y,Y,Z,Y,Y,Z,Z,Z,Z,Z,Z,Z,Z,Z,Z,Z] rfl rfl HT_.out (by kernel_rfl) (fun _ _ _ h=>h) (by rfl) ?_ ?_ ?_;rotate_left;(intro w';go_simp;with_reducible rfl);rotate_left;(simp only [Act.put,q1_,q2_,q3_,i64_w,i32_w];rfl)
       refine pu_ (i:=12) (N:=some 81) (v:=?_) (a':=?_) #[Y,Z,Y,Y,Y,Z,Y,Y,Y,Z,Y,Y,Y,Z,Z,Z,Z,Z,Z,Z,Z,Z,Z] rfl rfl HT_.out (by kernel_rfl) (fun _ _ _ h=>h) (by rfl) ?_ ?_ ?_;rotate_left;(intro w';go_simp;with_reducible rfl);rotate_left;(simp only [Act.put,q1_,q2_,q3_,i64_w,i32_w];rfl)
       refine pu_ (i:=14) (N:=some 83) (v:=?_) (a':=?_) #[Y,Z,Y,Y,Y,Z,Y,Y,Y,Z,Y,Y,Y,Z,Y,Z,Z,Z,Z,Z,Z,Z,Z] rfl rfl HT_.out (by kernel_rfl) (fun _ _ _ h=>h) (by rfl) ?_ ?_ ?_;rotate_left;(intro w';go_simp;with_reducible rfl);rotate_left;(simp only [Act.put,q1_,q2_,q3_,i64_w,i32_w];rfl)
       refine pu_ (i:=15) (N:=some 84) (v:=?_) (a':=?_) #[Y,Z,Y,Y,Y,Z,Y,Y,Y,Z,Y,Y,Y,Z,Y,Y,Z,Z,Z,Z,Z,Z,Z] rfl rfl HT_.out (by kernel_rfl) (fun _ _ _ h=>h) (by rfl) ?_ ?_ ?_;rotate_left;(intro w';go_simp;with_reducible rfl);rotate_left;(simp only [Act.put,q1_,q2_,q3_,i64_w,i32_w];rfl)
       refine pu_ (i:=16) (N:=some 85) (v:=?_) (a':=?_) #[Y,Z,Y,Y,Y,Z,Y,Y,Y,Z,Y,Y,Y,Z,Y,Y,Y,Z,Z,Z,Z,Z,Z] rfl rfl HT_.out (by kernel_rfl) (fun _ _ _ h=>h) (by rfl) ?_ ?_ ?_;rotate_left;(intro w';go_simp;with_reducible rfl);rotate_left;(simp only [Act.put,q1_,q2_,q3_,i64_w,i32_w];rfl)
       refine ta_ (i:=1) (N:=some 70) (v:=?_) (a':=?_) #[Y,Y,Y,Y,Y,Z,Y,Y,Y,Z,Y,Y,Y,Z,Y,Y,Y,Z,Z,Z,Z,Z,Z] rfl rfl HT_.out HW_.out (by kernel_rfl) (fun _ _ _ h=>h) (by rfl) ?_ hHeld ?_ ?_;rotate_left;(rintro w' ⟨z0,z1,z2,z3,z4⟩;go_simp;with_reducible rfl);rotate_left;(simp only [Act.put,q1_,q2_,q3_,i64_w,i32_w];rfl)
       refine ta_ (i:=5) (N:=some 74) (v:=?_) (a':=?_) #[Y,Y,Y,Y,Y,Y,Y,Y,Y,Z,Y,Y,Y,Z,Y,Y,Y,Z,Z,Z,Z,Z,Z] rfl rfl HT_.out HW_.out (by kernel_rfl) (fun _ _ _ h=>h) (by rfl) ?_ hHeld ?_ ?_;rotate_left;(rintro w' ⟨z0,z1,z2,z3,z4⟩;go_simp;with_reducible rfl);rotate_left;(simp only [Act.put,q1_,q2_,q3_,i64_w,i32_w];rfl)
       refine ta_ (i:=9) (N:=some 78) (v:=?_) (a':=?_) #[Y,Y,Y,Y,Y,Y,Y,Y,Y,Y,Y,Y,Y,Z,Y,Y,Y,Z,Z,Z,Z,Z,Z] rfl rfl HT_.out HW_.out (by kernel_rfl) (fun _ _ _ h=>h) (by rfl) ?_ hHeld ?_ ?_;rotate_left;(rintro w' ⟨z0,z1,z2,z3,z4⟩;go_simp;with_reducible rfl);rotate_left;(simp only [Act.put,q1_,q2_,q3_,i64_w,i32_w];rfl)
       refine ta_ (i:=13) (N:=some 82) (v:=?_) (a':=?_) #[Y,Y,Y,Y,Y,Y,Y,Y,Y,Y,Y,Y,Y,Y,Y,Y,Y,Z,Z,Z,Z,Z,Z] rfl rfl HT_.out HW_.out (by kernel_rfl) (fun _ _ _ h=>h) (by rfl) ?_ hHeld ?_ ?_;rotate_left;(rintro w' ⟨z0,z1,z2,z3,z4⟩;go_simp;with_reducible rfl);rotate_left;(simp only [Act.put,q1_,q2_,q3_,i64_w,i32_w];rfl)
       refine ta_ (i:=17) (N:=some 86) (v:=?_) (a':=?_) #[Y,Y,Y,Y,Y,Y,Y,Y,Y,Y,Y,Y,Y,Y,Y,Y,Y,Y,Z,Z,Z,Z,Z] rfl rfl HT_.out HW_.out (by kernel_rfl) (fun _ _ _ h=>h) (by rfl) ?_ hHeld ?_ ?_;rotate_left;(rintro w' ⟨z0,z1,z2,z3,z4⟩;go_simp;with_reducible rfl);rotate_left;(simp only [Act.put,q1_,q2_,q3_,i64_w,i32_w];rfl)
       refine pu_ (i:=18) (N:=some 87) (v:=?_) (a':=?_) #[Y,Y,Y,Y,Y,Y,Y,Y,Y,Y,Y,Y,Y,Y,Y,Y,Y,Y,Y,Z,Z,Z,Z] rfl rfl HT_.out (by kernel_rfl) (fun _ _ _ h=>h) (by rfl) ?_ ?_ ?_;rotate_left;(intro w';go_simp;with_reducible rfl);rotate_left;(simp only [Act.put,q1_,q2_,q3_,i64_w,i32_w];rfl)
       refine one_ (i:=19) (N:=some 88) #[Y,Y,Y,Y,Y,Y,Y,Y,Y,Y,Y,Y,Y,Y,Y,Y,Y,Y,Y,Y,Z,Z,Z] rfl rfl (one_of HT_.out (by kernel_rfl)) (by decide) (fun K hK=>?_)
       refine value_ (w1:=?_) (v:=?_) (by rfl) rfl ?_ ?_
       rotate_left 2
       ·go_simp
        constructor
        ·rfl
        ·rfl
       refine hK.out _ _ ⟨(bc_ (ka_ BKB_.out _) 3).trans rfl,(World.cell?_alloc_lt _ _ _ (wb_ _ _ s1_)).trans s1_,(World.cell?_alloc_lt _ _ _ (wb_ _ _ s2_)).trans s2_,(World.cell?_alloc_lt _ _ _ (wb_ _ _ s3_)).trans s3_,(World.cell?_alloc_lt _ _ _ (wb_ _ _ s4_)).trans s4_⟩ (fun hHeld=>?_)
       clear hK K
       refine norm_ (a':=?_) ?_ ?_;rotate_left;(show Act.put _ (some 88) _=_;simp only [Act.put,q1_,q2_,q3_,i64_w,i32_w];rfl)
       refine last_ (i:=20) (N:=some 89) #[Y,Y,Y,Y,Y,Y,Y,Y,Y,Y,Y,Y,Y,Y,Y,Y,Y,Y,Y,Y,Y,Z,Z] rfl rfl (one_of HT_.out (by kernel_rfl)) (by decide) (fun K hK=>?_)
       refine Kd.R_append_step k56 (w0:=wd_) B_ (by rfl) (.tmp 70) (.tmp 88) 24 56 (.agg #[(.int .i64 0),(.int .i64 0),(.int .i64 0),(.int .i64 0)]) 32 rfl Tryd.underlying24 info56 rfl (by decide) (by omega) u_ xs_ (⟨v1_,v0_,v2_,v3_⟩ : S56) [.int .i64 v1_,.int .i64 v0_,.int .i64 v2_,.int .i64 v3_] (fun _=>True) (fun _=>False) rfl rfl ?aP (fun _ hk=>hk.elim) ?aF ?aO ?aB ?aS ?aL ?_
       (case aP=>exact k56_mkM _ _ _ (⟨v1_,v0_,v2_,v3_⟩ : S56))
       (case aB=>exact Below.refl _ _)
       (case aF=>exact (fun _ _=>trivial))
       (case aO=>exact HRB_.out)
       (case aS=>exact HB_.out)
       (case aL=>omega)
       intro v_ we_ ho_ hb_ hg_ hat_
       have BKE_:=A_ (blk_grown (g:=gb286) (o:=.cells #[.int .i64 ((rd_T51 t272 1).f1),.int .i64 ((rd_T51 t272 2).f1),.int .i64 ((rd_T51 t272 3).f1),u_] 26 (0,0)) BKB_.out hg_ (Kd.R_ne HRB_.out BKB_.out (by decide)))
       obtain ⟨ye_,hye_⟩ : ∃ y_ : List S56,y_=xs_++[(⟨v1_,v0_,v2_,v3_⟩ : S56)]:=⟨_,rfl⟩
       rw [← hye_] at ho_;have HYE_:=A_ hye_;clear hye_;obtain ⟨Av_,cv_,ev_⟩:=Kd.R_slice ho_;subst ev_;clear BKB_ hat_;refine hK.out _ _ ?_;clear hK K
       refine norm_ (a':=?_) ?_ ?_;rotate_left;(show Act.put _ (some 89) _=_;simp only [Act.put,q1_,q2_,q3_,i64_w,i32_w];rfl)
       refine pu_ (i:=21) (N:=some 90) (v:=?_) (a':=?_) #[Y,Y,Y,Y,Y,Y,Y,Y,Y,Y,Y,Y,Y,Y,Y,Y,Y,Y,Y,Y,Y,Y,Z] rfl rfl HT_.out (by kernel_rfl) (fun _ _ _ h=>h) (by rfl) ?_ ?_ ?_;rotate_left;(intro w';go_simp;with_reducible rfl);rotate_left;(simp only [Act.put,q1_,q2_,q3_,i64_w,i32_w];rfl)
       refine last_ (i:=22) (N:=none) #[Y,Y,Y,Y,Y,Y,Y,Y,Y,Y,Y,Y,Y,Y,Y,Y,Y,Y,Y,Y,Y,Y,Y] rfl rfl (one_of HT_.out (by kernel_rfl)) (by decide) (fun K hK=>?_)
       have hsE_ : we_.cell? ⟨gb286,3,none⟩=some (u_):=(bc_ BKE_.out 3).trans rfl;have hfE_:=bf_ BKE_.out 3
       refine skip_ (w1:=?_) (by rfl) rfl ?_ ?_
       rotate_left
       ·go_simp
        rfl
       refine hK.out _ _ ?_;clear hK K;refine done_ (done_of HT_.out (by kernel_rfl)) ?_
       try simp only [Exit.inBlock,Exit.then]
       have hkp_:=keep_put (W:=W_) (W1:=we_) (row:=u_.ownBlock) (j:=3) (v:=.slice Av_ ye_.length cv_) (g:=gb286) (by rw [hwd_];exact hg_)
       refine ⟨rfl,_,blk_put (cs:=#[.int .i64 ((rd_T51 t272 1).f1),.int .i64 ((rd_T51 t272 2).f1),.int .i64 ((rd_T51 t272 3).f1),u_]) BKE_.out 3 _ rfl,?_,hkp_.1,hkp_.2⟩;rw [← HYE_.out]
       exact Kd.R_mono (rf_ (p:=⟨gb286,3,none⟩) (Kd.R_types ho_ BKE_.out (by decide)) (fun _ hk=>hk.2) _) (fun _ _=>trivial)
      case done2 =>
       intro D_ W_ u_ hD_ hK_ h0_ hk_ hbk_ hR_;have hDz_:=(Array.getElem?_eq_some_iff.1 hK_).1;rw [← hE_] at hR_;clear hE_ hN1_ hcA_ hbs_ hbn_
       have HO293:=A_ (Kd.R_lower hR_ (by omega : w.heap.size≤wl_.heap.size))
       have n2_:=A_ ((hk_.2 gb257 (by omega) NB257_286.out (by simp)).trans BK257.out)
       have n5_:=A_ (below_keep' HB.out h0_ hk_ GE286.out (Nat.le_refl _));have KD_:=A_ hK_
       have hDn0_ : D_≠gb257:=by omega
       have hDn1_ : D_≠gb286:=by omega
       have GD_ : w.heap.size≤D_:=by omega
       clear BK257 BK286 HB HO_6 HR290 hR_;have BK257:=n2_;have HB:=n5_;have BK286:=A_ hbk_;clear n2_ n5_ hbk_ hK_ h0_ hk_;obtain ⟨Ao70,co70,eo_⟩:=Kd.R_slice HO293.out;subst eo_;have hnb_:=NB286_257.out;have hnc_:=NB257_286.out;obtain ⟨hczi_0,hczi_1,hczi_2,hczi_3⟩:=blkc_4 BK286.out;obtain ⟨hfzi_0,hfzi_1,hfzi_2⟩:=blkz_3 BK286.out;have hfzi_3:=bf_ BK286.out 3
       dsimp only
       try simp only [Exit.inBlock,Exit.then]
       apply_assumption
       try go_wp2_with ((with_reducible refine gate_callee (f:=13) rfl ?_);refine goesL_ (some 92) rfl rfl Tryd.func13 (by kernel_rfl) rfl #[.agg #[.int .i64 ((rd_T51 t272 1).f1),.int .i64 ((rd_T51 t272 2).f1),.int .i64 ((rd_T51 t272 3).f1),.slice Ao70 t291.length co70]] rfl (by (try simp only [List.map_toArray,List.map_cons,List.map_nil]);first|done|rfl|(simp only [List.length_drop,List.length_take];rfl)) ?_;(with_reducible refine (table_Check.calls kj19 ((rd_T51 t272 1).f1) ((rd_T51 t272 2).f1) ((rd_T51 t272 3).f1) _ _ t291 t294 _ ?side1 ?side2 A42.out).mono ?_);(case side1=>exact (Kd.R_reads' HO293.out).2.2);(case side2=>exact (Kd.R_reads' HO293.out).2.1);rintro e wk_ ⟨rfl,hb⟩;refine ⟨_,rfl,?_⟩;have n0_:=A_ (Kd.R_below (by exact HO293.out) hb);have n1_:=A_ (bb_ (by exact BK257.out) hb);have n2_:=A_ (bb_ (by exact BK286.out) hb);have n3_:=A_ (bp_ (by exact HB.out) hb);have n4_:=A_ (bb_ (by exact KD_.out) hb);clear HO293;clear BK257;clear BK286;clear HB;clear KD_;have HO293:=n0_;have BK257:=n1_;have BK286:=n2_;have HB:=n3_;have KD_:=n4_;clear n0_ n1_ n2_ n3_ n4_;clear hb;obtain ⟨hczj_0,hczj_1,hczj_2,hczj_3⟩:=blkc_4 BK286.out;obtain ⟨hfzj_0,hfzj_1,hfzj_2,hfzj_3⟩:=blkz_4 BK286.out;obtain ⟨hczk_0,hczk_1,hczk_2,hczk_3⟩:=blkc_4 BK257.out;obtain ⟨hfzk_0,hfzk_1,hfzk_2⟩:=blkz_3 BK257.out;have hfzk_3:=bf_ BK257.out 3)
       refine bodyPostR_mark (D:=D_) (by (repeat (refine (Below.heap_setCell _ _ _ _ hDn0_).trans ?_));exact KD_.out) (results_ct rfl _ _ gb257 26 #[.int .i64 0,.int .i64 0,.int .i64 0,.slice none 0 0] (0,0) _ rfl (blk_close (by refine kk_ ?_;apply blkf_4_0_3;exact kk_ BK257.out) (by (repeat (refine (Below.heap_setCell _ _ _ _ hDn0_).trans ?_));exact KD_.out)) Tryd.underlying26 rfl (by kernel_rfl)) rfl ?_
       exact ⟨_,by first|rfl|(simp [errW_none,errW_some] <;> rfl)|(simp [*,errW_none,errW_some] <;> rfl),R_close (by first|exact Kd.R_nil _ _ _ _ _|exact Kd.N_nil _ _ _ _ _|exact Kd.V_nil _ _ _ _ _|exact Kd.Q_nil _ _ _ _ _|exact Kd.S_nil _ _ _ _ _) (by (repeat (refine (Below.heap_setCell _ _ _ _ hDn0_).trans ?_));exact KD_.out),below_close (bs_ (bs_ (bs_ (bs_ HB.out GE257.out) GE257.out) GE257.out) GE257.out) (by (repeat (refine (Below.heap_setCell _ _ _ _ hDn0_).trans ?_));exact KD_.out) GD_ (Nat.le_refl _)⟩
     rw [if_pos c43] at H
     have c43b0 : (t294 == 0)=true:=beq_iff_eq.mpr c43;have c43b1 : (t294 != 0)=false:=bne_eq_false_iff_eq.mpr c43;clear c43
     simp only [Option.some.injEq,Prod.mk.injEq] at H
     obtain ⟨rfl,rfl,rfl,rfl,rfl⟩:=H
     try go_wp2
     have n0_:=A_ (re_ HO_6.out);have n1_:=A_ (ke_ BK257.out);have n2_:=A_ (be_ HB.out);clear HO_6;clear BK257;clear HB;have HO_6:=n0_;have BK257:=n1_;have HB:=n2_;clear n0_ n1_ n2_;obtain ⟨Ao45,co45,eo45⟩:=Kd.R_slice HO_6.out
     (first|subst eo45|(injection eo45 with f1_ f2_ f3_;have f4_:=f1_.symm;have f5_:=f3_.symm;clear f1_ f2_ f3_;subst f4_;subst f5_))
     have p283 : 0≤(1 : Int):=(by omega)
     have q283 : 1<(t272.length : Int):=od_ (by first|(with_reducible assumption)|assumption)
     obtain ⟨ad283,e283,hx283_0,hx283_1,hx283_2,hx283_3⟩:=at_T51 (Kd.R_reads' HO_6.out).2.2 1 p283 q283
     cases e283
     (try simp only [N1_,Nat.reduceMul,Nat.reduceEqDiff,Go.Addr.add,↓reduceIte] at hx283_0 hx283_1 hx283_2 hx283_3)
     have qi283 : (1<t272.length)=True:=eq_true (by omega)
     replace p283:=eq_true p283;replace q283:=eq_true q283
     have p284 : 0≤(2 : Int):=(by omega)
     have q284 : 2<(t272.length : Int):=od_ (by first|(with_reducible assumption)|assumption)
     obtain ⟨ad284,e284,hx284_0,hx284_1,hx284_2,hx284_3⟩:=at_T51 (Kd.R_reads' HO_6.out).2.2 2 p284 q284
     obtain rfl : ad283=ad284:=(by injection e284)
     (try simp only [N2_,Nat.reduceMul,Nat.reduceEqDiff,Go.Addr.add,↓reduceIte] at hx284_0 hx284_1 hx284_2 hx284_3)
     have qi284 : (2<t272.length)=True:=eq_true (by omega)
     replace p284:=eq_true p284;replace q284:=eq_true q284
     have p285 : 0≤(3 : Int):=(by omega)
     have q285 : 3<(t272.length : Int):=od_ (by first|(with_reducible assumption)|assumption)
     obtain ⟨ad285,e285,hx285_0,hx285_1,hx285_2,hx285_3⟩:=at_T51 (Kd.R_reads' HO_6.out).2.2 3 p285 q285
     obtain rfl : ad283=ad285:=(by injection e285)
     (try simp only [N3_,Nat.reduceMul,Nat.reduceEqDiff,Go.Addr.add,↓reduceIte] at hx285_0 hx285_1 hx285_2 hx285_3)
     have qi285 : (3<t272.length)=True:=eq_true (by omega)
     replace p285:=eq_true p285;replace q285:=eq_true q285
     refine start_ (n:=15) (S:=fun w'=>w'.cell? ⟨ad283.block,ad283.off + 4,none⟩=some (.int .i64 ((rd_T51 t272 1).f0))∧w'.cell? ⟨ad283.block,ad283.off + 4 + 1,none⟩=some (.int .i64 ((rd_T51 t272 1).f1))∧w'.cell? ⟨ad283.block,ad283.off + 4 + 2,none⟩=some (.float .f64 ((rd_T51 t272 1).f2))∧w'.cell? ⟨ad283.block,ad283.off + 4 + 3,none⟩=some (.string ((rd_T51 t272 1).f3))∧w'.cell? ⟨ad283.block,ad283.off + 8,none⟩=some (.int .i64 ((rd_T51 t272 2).f0))∧w'.cell? ⟨ad283.block,ad283.off + 8 + 1,none⟩=some (.int .i64 ((rd_T51 t272 2).f1))∧w'.cell? ⟨ad283.block,ad283.off + 8 + 2,none⟩=some (.float .f64 ((rd_T51 t272 2).f2))∧w'.cell? ⟨ad283.block,ad283.off + 8 + 3,none⟩=some (.string ((rd_T51 t272 2).f3))∧w'.cell? ⟨ad283.block,ad283.off + 12,none⟩=some (.int .i64 ((rd_T51 t272 3).f0))∧w'.cell? ⟨ad283.block,ad283.off + 12 + 1,none⟩=some (.int .i64 ((rd_T51 t272 3).f1))∧w'.cell? ⟨ad283.block,ad283.off + 12 + 2,none⟩=some (.float .f64 ((rd_T51 t272 3).f2))∧w'.cell? ⟨ad283.block,ad283.off + 12 + 3,none⟩=some (.string ((rd_T51 t272 3).f3))) (ds:=[14]) #[Z,Z,Z,Z,Z,Z,Z,Z,Z,Z,Z,Z,Z,Z,Z] (by kernel_rfl) rfl rfl ⟨hx283_0,hx283_1,hx283_2,hx283_3,hx284_0,hx284_1,hx284_2,hx284_3,hx285_0,hx285_1,hx285_2,hx285_3⟩ (fun hHeld=>?_);refine with_tabW table_Decode.tab11 table_Decode.bits11 (fun HT_ HW_=>?_)
     generalize wc.drew=w44 at HO_6 BK257 HB hx283_0 hx283_1 hx283_2 hx283_3 hx284_0 hx284_1 hx284_2 hx284_3 hx285_0 hx285_1 hx285_2 hx285_3 hHeld ⊢
     refine pu_ (i:=0) (N:=some 52) (v:=?_) (a':=?_) #[Y,Z,Z,Z,Z,Z,Z,Z,Z,Z,Z,Z,Z,Z,Z] rfl rfl HT_.out (by kernel_rfl) (fun _ _ _ h=>h) (by rfl) ?_ ?_ ?_;rotate_left;(intro w';go_simp;with_reducible rfl);rotate_left;(simp only [Act.put,q1_,q2_,q3_,i64_w,i32_w];rfl)
     refine pu_ (i:=1) (N:=some 53) (v:=?_) (a':=?_) #[Y,Y,Z,Z,Z,Z,Z,Z,Z,Z,Z,Z,Z,Z,Z] rfl rfl HT_.out (by kernel_rfl) (fun _ _ _ h=>h) (by rfl) ?_ ?_ ?_;rotate_left;(intro w';go_simp;with_reducible rfl);rotate_left;(simp only [Act.put,q1_,q2_,q3_,i64_w,i32_w];rfl)
     refine pu_ (i:=2) (N:=some 54) (v:=?_) (a':=?_) #[Y,Y,Y,Z,Z,Z,Z,Z,Z,Z,Z,Z,Z,Z,Z] rfl rfl HT_.out (by kernel_rfl) (fun _ _ _ h=>h) (by rfl) ?_ ?_ ?_;rotate_left;(intro w';go_simp;with_reducible rfl);rotate_left;(simp only [Act.put,q1_,q2_,q3_,i64_w,i32_w];rfl)
     refine pu_ (i:=4) (N:=some 56) (v:=?_) (a':=?_) #[Y,Y,Y,Z,Y,Z,Z,Z,Z,Z,Z,Z,Z,Z,Z] rfl rfl HT_.out (by kernel_rfl) (fun _ _ _ h=>h) (by rfl) ?_ ?_ ?_;rotate_left;(intro w';go_simp;with_reducible rfl);rotate_left;(simp only [Act.put,q1_,q2_,q3_,i64_w,i32_w];rfl)
     refine pu_ (i:=5) (N:=some 57) (v:=?_) (a':=?_) #[Y,Y,Y,Z,Y,Y,Z,Z,Z,Z,Z,Z,Z,Z,Z] rfl rfl HT_.out (by kernel_rfl) (fun _ _ _ h=>h) (by rfl) ?_ ?_ ?_;rotate_left;(intro w';go_simp;with_reducible rfl);rotate_left;(simp only [Act.put,q1_,q2_,q3_,i64_w,i32_w];rfl)
     refine pu_ (i:=6) (N:=some 58) (v:=?_) (a':=?_) #[Y,Y,Y,Z,Y,Y,Y,Z,Z,Z,Z,Z,Z,Z,Z] rfl rfl HT_.out (by kernel_rfl) (fun _ _ _ h=>h) (by rfl) ?_ ?_ ?_;rotate_left;(intro w';go_simp;with_reducible rfl);rotate_left;(simp only [Act.put,q1_,q2_,q3_,i64_w,i32_w];rfl)
     refine pu_ (i:=8) (N:=some 60) (v:=?_) (a':=?_) #[Y,Y,Y,Z,Y,Y,Y,Z,Y,Z,Z,Z,Z,Z,Z] rfl rfl HT_.out (by kernel_rfl) (fun _ _ _ h=>h) (by rfl) ?_ ?_ ?_;rotate_left;(intro w';go_simp;with_reducible rfl);rotate_left;(simp only [Act.put,q1_,q2_,q3_,i64_w,i32_w];rfl)
     refine pu_ (i:=9) (N:=some 61) (v:=?_) (a':=?_) #[Y,Y,Y,Z,Y,Y,Y,Z,Y,Y,Z,Z,Z,Z,Z] rfl rfl HT_.out (by kernel_rfl) (fun _ _ _ h=>h) (by rfl) ?_ ?_ ?_;rotate_left;(intro w';go_simp;with_reducible rfl);rotate_left;(simp only [Act.put,q1_,q2_,q3_,i64_w,i32_w];rfl)
     refine pu_ (i:=10) (N:=some 62) (v:=?_) (a':=?_) #[Y,Y,Y,Z,Y,Y,Y,Z,Y,Y,Y,Z,Z,Z,Z] rfl rfl HT_.out (by kernel_rfl) (fun _ _ _ h=>h) (by rfl) ?_ ?_ ?_;rotate_left;(intro w';go_simp;with_reducible rfl);rotate_left;(simp only [Act.put,q1_,q2_,q3_,i64_w,i32_w];rfl)
     refine ta_ (i:=3) (N:=some 55) (v:=?_) (a':=?_) #[Y,Y,Y,Y,Y,Y,Y,Z,Y,Y,Y,Z,Z,Z,Z] rfl rfl HT_.out HW_.out (by kernel_rfl) (fun _ _ _ h=>h) (by rfl) ?_ hHeld ?_ ?_;rotate_left;(rintro w' ⟨s0,s1,s2,s3,s4,s5,s6,s7,s8,s9,s10,s11⟩;go_simp;with_reducible rfl);rotate_left;(simp only [Act.put,q1_,q2_,q3_,i64_w,i32_w];rfl)
     refine ta_ (i:=7) (N:=some 59) (v:=?_) (a':=?_) #[Y,Y,Y,Y,Y,Y,Y,Y,Y,Y,Y,Z,Z,Z,Z] rfl rfl HT_.out HW_.out (by kernel_rfl) (fun _ _ _ h=>h) (by rfl) ?_ hHeld ?_ ?_;rotate_left;(rintro w' ⟨s0,s1,s2,s3,s4,s5,s6,s7,s8,s9,s10,s11⟩;go_simp;with_reducible rfl);rotate_left;(simp only [Act.put,q1_,q2_,q3_,i64_w,i32_w];rfl)
     refine ta_ (i:=11) (N:=some 63) (v:=?_) (a':=?_) #[Y,Y,Y,Y,Y,Y,Y,Y,Y,Y,Y,Y,Z,Z,Z] rfl rfl HT_.out HW_.out (by kernel_rfl) (fun _ _ _ h=>h) (by rfl) ?_ hHeld ?_ ?_;rotate_left;(rintro w' ⟨s0,s1,s2,s3,s4,s5,s6,s7,s8,s9,s10,s11⟩;go_simp;with_reducible rfl);rotate_left;(simp only [Act.put,q1_,q2_,q3_,i64_w,i32_w];rfl)
     refine pu_ (i:=12) (N:=some 64) (v:=?_) (a':=?_) #[Y,Y,Y,Y,Y,Y,Y,Y,Y,Y,Y,Y,Y,Z,Z] rfl rfl HT_.out (by kernel_rfl) (fun _ _ _ h=>h) (by rfl) ?_ ?_ ?_;rotate_left;(intro w';go_simp;with_reducible rfl);rotate_left;(simp only [Act.put,q1_,q2_,q3_,i64_w,i32_w];rfl)
     refine one_ (i:=13) (N:=some 8) #[Y,Y,Y,Y,Y,Y,Y,Y,Y,Y,Y,Y,Y,Y,Z] rfl rfl (one_of HT_.out (by kernel_rfl)) (by decide) (fun K hK=>?_)
     refine box_step ?hg (N:=8) ?hd (cs:=#[.int .i64 0,.int .i64 0,.int .i64 0,.slice none 0 0]) (t:=26) ?hr ?_;(case hd=>rfl);(case hg=>rfl);(case hr=>first|(go_simp;done)|(go_simp;rfl))
     intro gb286 hg w46 hbox hb;have HS0_:=(hb.cell (wb_ _ _ (hHeld.1))).trans (hHeld.1);have HS1_:=(hb.cell (wb_ _ _ (hHeld.2.1))).trans (hHeld.2.1);have HS2_:=(hb.cell (wb_ _ _ (hHeld.2.2.1))).trans (hHeld.2.2.1);have HS3_:=(hb.cell (wb_ _ _ (hHeld.2.2.2.1))).trans (hHeld.2.2.2.1);have HS4_:=(hb.cell (wb_ _ _ (hHeld.2.2.2.2.1))).trans (hHeld.2.2.2.2.1);have HS5_:=(hb.cell (wb_ _ _ (hHeld.2.2.2.2.2.1))).trans (hHeld.2.2.2.2.2.1);have HS6_:=(hb.cell (wb_ _ _ (hHeld.2.2.2.2.2.2.1))).trans (hHeld.2.2.2.2.2.2.1);have HS7_:=(hb.cell (wb_ _ _ (hHeld.2.2.2.2.2.2.2.1))).trans (hHeld.2.2.2.2.2.2.2.1);have HS8_:=(hb.cell (wb_ _ _ (hHeld.2.2.2.2.2.2.2.2.1))).trans (hHeld.2.2.2.2.2.2.2.2.1);have HS9_:=(hb.cell (wb_ _ _ (hHeld.2.2.2.2.2.2.2.2.2.1))).trans (hHeld.2.2.2.2.2.2.2.2.2.1);have HS10_:=(hb.cell (wb_ _ _ (hHeld.2.2.2.2.2.2.2.2.2.2.1))).trans (hHeld.2.2.2.2.2.2.2.2.2.2.1);have HS11_:=(hb.cell (wb_ _ _ (hHeld.2.2.2.2.2.2.2.2.2.2.2))).trans (hHeld.2.2.2.2.2.2.2.2.2.2.2)
     have n0_:=A_ (Kd.R_below (by (with_reducible repeat (first|apply ra_|apply rn_|apply re_));exact HO_6.out) hb)
     have n1_:=A_ (bx_ BK257.out kf_ hb);have n2_:=A_ (bp_ (hb1_ HB.out GE257.out) hb);have n3_:=A_ (hbox)
     have n4_:=A_ ((by rw [hg];exact (bz_ (hb1_ HB.out GE257.out)) : w.heap.size≤gb286))
     have n5_:=n4_
     have n6_:=A_ ((by rw [hg];exact Nat.ne_of_lt (bl_ BK257.out kf_) : gb257≠gb286))
     have n7_:=A_ (Ne.symm n6_.out);clear HO_6;clear BK257;clear HB;have HO_6:=n0_;have BK257:=n1_;have HB:=n2_;have BK286:=n3_;have GW286:=n4_;have GE286:=n5_;have NB257_286:=n6_;have NB286_257:=n7_;clear n0_ n1_ n2_ n3_ n4_ n5_ n6_ n7_;clear hb hbox hg
     refine hK.out _ _ ⟨HS0_,HS1_,HS2_,HS3_,HS4_,HS5_,HS6_,HS7_,HS8_,HS9_,HS10_,HS11_⟩ (fun hHeld=>?_)
     clear hK K
     refine norm_ (a':=?_) ?_ ?_;rotate_left;(show Act.put _ (some 8) _=_;simp only [Act.put,q1_,q2_,q3_,i64_w,i32_w];rfl)
     refine last_ (i:=14) (N:=none) #[Y,Y,Y,Y,Y,Y,Y,Y,Y,Y,Y,Y,Y,Y,Y] rfl rfl (one_of HT_.out (by kernel_rfl)) (by decide) (fun K hK=>?_)
     have hs47 : w46.cell? ⟨gb286,0,none⟩=some (.int .i64 0):=(bc_ BK286.out 0).trans rfl;have hfs47:=bf_ BK286.out 0;have hns47_0:=NB257_286.out;have hms47_0:=NB286_257.out;have hs48 : w46.cell? ⟨gb286,1,none⟩=some (.int .i64 0):=(bc_ BK286.out 1).trans rfl;have hfs48:=bf_ BK286.out 1;have hns48_0:=NB257_286.out;have hms48_0:=NB286_257.out;have hs49 : w46.cell? ⟨gb286,2,none⟩=some (.int .i64 0):=(bc_ BK286.out 2).trans rfl;have hfs49:=bf_ BK286.out 2;have hns49_0:=NB257_286.out;have hms49_0:=NB286_257.out;have hs50 : w46.cell? ⟨gb286,3,none⟩=some (.slice none 0 0):=(bc_ BK286.out 3).trans rfl;have hfs50:=bf_ BK286.out 3;have hns50_0:=NB257_286.out;have hms50_0:=NB286_257.out
     refine skip_ (w1:=?_) (by rfl) rfl ?_ ?_
     rotate_left
     ·go_simp
      rfl
     refine hK.out _ _ ?_;clear hK K;refine done_ (done_of HT_.out (by kernel_rfl)) ?_
     have n0_ : Aside0 (Kd.R k51 51 ((((w46.setCell ⟨gb286,0,none⟩ (.int .i64 ((rd_T51 t272 1).f1))).setCell ⟨gb286,1,none⟩ (.int .i64 ((rd_T51 t272 2).f1))).setCell ⟨gb286,2,none⟩ (.int .i64 ((rd_T51 t272 3).f1))).setCell ⟨gb286,3,none⟩ (.slice none 0 0)) w.heap.size (fun _=>True) (.slice (some ad283) t272.length co45) t272):=⟨by (with_reducible repeat (first|apply ra_|apply rn_|apply re_));exact Kd.R_mono (rf_ (p:=⟨gb286,3,none⟩) (rf_ (p:=⟨gb286,2,none⟩) (rf_ (p:=⟨gb286,1,none⟩) (rf_ (p:=⟨gb286,0,none⟩) (Kd.R_types HO_6.out BK286.out (by decide)) (fun _ hk=>hk.2) (.int .i64 ((rd_T51 t272 1).f1))) (fun _ hk=>hk.2) (.int .i64 ((rd_T51 t272 2).f1))) (fun _ hk=>hk.2) (.int .i64 ((rd_T51 t272 3).f1))) (fun _ hk=>hk.2) (.slice none 0 0)) (fun _ hk=>trivial)⟩
     have n1_ : Aside0 (((((w46.setCell ⟨gb286,0,none⟩ (.int .i64 ((rd_T51 t272 1).f1))).setCell ⟨gb286,1,none⟩ (.int .i64 ((rd_T51 t272 2).f1))).setCell ⟨gb286,2,none⟩ (.int .i64 ((rd_T51 t272 3).f1))).setCell ⟨gb286,3,none⟩ (.slice none 0 0)).heap[gb257]?=some (.cells #[.int .i64 0,.int .i64 0,.int .i64 0,.slice none 0 0] 26 (0,0))):=⟨by refine kk_ ?_;refine blk_far ?_ NB257_286.out _;refine kk_ ?_;refine blk_far ?_ NB257_286.out _;refine kk_ ?_;refine blk_far ?_ NB257_286.out _;refine kk_ ?_;refine blk_far ?_ NB257_286.out _;exact kk_ BK257.out⟩
     have n2_ : Aside0 (((((w46.setCell ⟨gb286,0,none⟩ (.int .i64 ((rd_T51 t272 1).f1))).setCell ⟨gb286,1,none⟩ (.int .i64 ((rd_T51 t272 2).f1))).setCell ⟨gb286,2,none⟩ (.int .i64 ((rd_T51 t272 3).f1))).setCell ⟨gb286,3,none⟩ (.slice none 0 0)).heap[gb286]?=some (.cells #[.int .i64 ((rd_T51 t272 1).f1),.int .i64 ((rd_T51 t272 2).f1),.int .i64 ((rd_T51 t272 3).f1),.slice none 0 0] 26 (0,0))):=⟨by refine kk_ ?_;apply blkf_4_0_3;exact kk_ BK286.out⟩
     have n3_ : Aside0 (Below w.heap.size w ((((w46.setCell ⟨gb286,0,none⟩ (.int .i64 ((rd_T51 t272 1).f1))).setCell ⟨gb286,1,none⟩ (.int .i64 ((rd_T51 t272 2).f1))).setCell ⟨gb286,2,none⟩ (.int .i64 ((rd_T51 t272 3).f1))).setCell ⟨gb286,3,none⟩ (.slice none 0 0))):=⟨hb2_ HB.out GE257.out GE286.out⟩;(try clear HO_6);(try clear BK257);(try clear BK286);(try clear HB)
     generalize ((((w46.setCell ⟨gb286,0,none⟩ (.int .i64 ((rd_T51 t272 1).f1))).setCell ⟨gb286,1,none⟩ (.int .i64 ((rd_T51 t272 2).f1))).setCell ⟨gb286,2,none⟩ (.int .i64 ((rd_T51 t272 3).f1))).setCell ⟨gb286,3,none⟩ (.slice none 0 0))=w51 at n0_ n1_ n2_ n3_ ⊢
     have HO_6:=n0_;have BK257:=n1_;have BK286:=n2_;have HB:=n3_;clear n0_ n1_ n2_ n3_
     have q52 : (4 : Int)≤((t272.length : Int) : Int):=od_ (by first|(with_reducible assumption)|assumption)
     obtain ⟨i052,hi052,_,hsz52,_⟩:=info_parts info51;have hroom52 : t272.length≤co45:=(Kd.R_reads' HO_6.out).2.1;have hC52 : Kd.C k51 _ (some ad283) t272.length t272:=(Kd.R_reads' HO_6.out).2.2
     have hcut52:=cut_from (P:=Tryd.prog) 45 51 .i64 Tryd.underlying45 hi052 4 hsz52 (some ad283) t272.length co45 4 (by omega) q52
     have hr52:=Kd.C_drop (m:=(4 : Int).toNat) (c:=co45) hC52 (by omega) hroom52
     obtain ⟨A52,hA52⟩ : ∃ A1,A1=(if co45=(4 : Int).toNat then (some ad283) else ((some ad283) : Option Addr).map (·.add ((4 : Int).toNat * 4))):=⟨_,rfl⟩
     obtain ⟨c52,hc52⟩ : ∃ c1,c1=co45 - (4 : Int).toNat:=⟨_,rfl⟩
     have hy52 : y287.length=t272.length - (4 : Int).toNat:=(by rw [Ny287.out,List.length_drop] <;> omega)
     rw [show (t272).drop (4 : Int).toNat=y287 from Ny287.out.symm] at hr52
     replace hr52 : Kd.C k51 _ A52 y287.length y287:=(by rw [hA52];exact hr52)
     rw [← hy52,← hA52,← hc52] at hcut52;have HR290:=A_ hr52
     have HC290:=A_ (show y287.length≤c52 from by rw [hy52,hc52];exact Nat.sub_le_sub_right hroom52 _)
     clear hr52 hC52 hroom52 hi052 hsz52 hc52;have KY52:=A_ hy52;have KA52:=A_ hA52;clear hy52 hA52
     have KL52:=A_ (show 4≤t272.length from by omega)
     replace q52:=eq_true q52;obtain ⟨N_,hN0_,hN1_,hN2_,hE_⟩:=chunk_f A41.out
     obtain ⟨ad_,hA_,_⟩:=HR290.out.2.2 (by omega)
     subst hA_;have HN1_:=A_ hN1_;have HE_:=A_ hE_;have HN2_:=A_ hN2_;clear hN1_ hE_ hN2_;have hgl_:=blk_lt BK286.out;have hgl0_:=blk_lt BK257.out;have hbs0_:=bz_ HB.out
     try go_wp2_with ((with_reducible refine gate_callee (f:=24) rfl ?_);refine goesL_ (some 67) rfl rfl Tryd.func24 (by kernel_rfl) rfl #[.slice (some ad_) y287.length c52,.int .i64 4] rfl (by (try simp only [List.map_toArray,List.map_cons,List.map_nil]);first|done|rfl|(simp only [List.length_drop,List.length_take];rfl)) ?_;(with_reducible refine (Chunk_any (some ad_) y287.length c52 _).mono ?_);rintro e wl_ ⟨cbs_,cbn_,rfl,hbs_,hbn_,hbs1_,hbs2_,hbn1_,hbn2_,hb⟩;refine ⟨_,rfl,?_⟩;have n0_:=A_ (Kd.R_below (by (with_reducible repeat (first|apply ra_|apply rn_|apply re_));exact HO_6.out) hb);have n2_:=A_ (bb_ (by exact BK257.out) hb);have n3_:=A_ (bb_ (by exact BK286.out) hb);have n5_:=A_ (bp_ (hb2_ HB.out GE257.out GE286.out) hb);have n6_:=A_ (Kd.C_below (by exact HR290.out) hb);have hbz_:=hb.size;clear HO_6;clear BK257;clear BK286;clear HB;clear HR290;have HO_6:=n0_;have BK257:=n2_;have BK286:=n3_;have HB:=n5_;have HR290:=n6_;clear n0_ n2_ n3_ n5_ n6_;clear hb)
     have hcA_:=HC290.out;have hN1_:=HN1_.out;have hE_:=HE_.out;have hN2_:=HN2_.out;clear HN1_ HE_ HN2_;rw [hN1_] at hbs_ hcA_
     refine range_four cbs_ cbn_ ad_ c52 N_ gb286 _ _ _ (fun x_=>chE y287 x_.1) hcA_ hN2_ rfl rfl hbs_ hbn_ (by omega) (by omega) BK286.out (fun x_ W_=>chP y287 ad_ x_.1 W_) ?hP1 (a₁:=?ax1) ?assign1 ?body1 ?done1
     case hP1 =>
      intro x_ W_ hk_
      have h1_ : Kd.R k51 51 W_ w.heap.size (fun _=>True) (.slice (some ad283) t272.length _) t272:=Kd.R_mono (Kd.R_keep (Kd.R_types HO_6.out BK286.out (by decide)) hk_ (fun _ h_=>h_.2)) (fun _ _=>trivial)
      have h2_:=(Kd.R_reads' h1_).2.2
      have h3_:=Kd.C_drop (m:=(4 : Int).toNat) (c:=_) h2_ (by have:=KL52.out;omega) (Kd.R_reads' h1_).2.1
      rw [show (t272).drop (4 : Int).toNat=y287 from Ny287.out.symm] at h3_
      exact chP_of hN1_ (by rw [KA52.out];exact h3_) x_
     case assign1 =>
      intro l_ x_ W_ K_ hK_
      gi_wp2
      exact hK_
     case body1 =>
      intro l_ x_ W_ u_ xs_ hP_ hB_ hl_ hbk_ hR_;obtain ⟨s1_,s2_,s3_,s4_⟩:=hP_
      obtain ⟨B_,hB0_⟩ : ∃ B_,B_=wl_.heap.size:=⟨_,rfl⟩
      rw [← hB0_] at hB_ hR_ ⊢;have hE1_ : chE y287 x_.1=⟨_,_,_,_⟩:=rfl;rw [hE1_];clear hE1_
      generalize Addr.add ad_ (4 * x_.1 * 4)=adx_ at s1_ s2_ s3_ s4_ ⊢
      generalize (rd_T51 y287 ((4 * x_.1 : Nat) : Int)).f1=v0_ at s1_ s2_ s3_ s4_ ⊢
      generalize (rd_T51 y287 ((4 * x_.1 + 1 : Nat) : Int)).f1=v1_ at s1_ s2_ s3_ s4_ ⊢
      generalize (rd_T51 y287 ((4 * x_.1 + 2 : Nat) : Int)).f1=v2_ at s1_ s2_ s3_ s4_ ⊢
      generalize (rd_T51 y287 ((4 * x_.1 + 3 : Nat) : Int)).f1=v3_ at s1_ s2_ s3_ s4_ ⊢
      have HRB_:=A_ (re_ hR_);have BKB_:=A_ (ke_ hbk_);have HB_ : Aside0 (B_≤W_.drew.heap.size):=⟨hB_⟩;clear hR_ hbk_;replace s1_:=(cell_drew_own W_ _).trans s1_;replace s2_:=(cell_drew_own W_ _).trans s2_;replace s3_:=(cell_drew_own W_ _).trans s3_;replace s4_:=(cell_drew_own W_ _).trans s4_
      gi_wp2
      refine startR_ (n:=23) (S:=fun w'=>w'.cell? ⟨gb286,3,none⟩=some (u_)∧w'.cell? ⟨adx_.block,adx_.off + 1,none⟩=some (.int .i64 v0_)∧w'.cell? ⟨adx_.block,adx_.off + 4 + 1,none⟩=some (.int .i64 v1_)∧w'.cell? ⟨adx_.block,adx_.off + 8 + 1,none⟩=some (.int .i64 v2_)∧w'.cell? ⟨adx_.block,adx_.off + 12 + 1,none⟩=some (.int .i64 v3_)) (ds:=[20,22]) #[Z,Z,Z,Z,Z,Z,Z,Z,Z,Z,Z,Z,Z,Z,Z,Z,Z,Z,Z,Z,Z,Z,Z] (by kernel_rfl) rfl rfl (by rintro ⟨_,_,e_,_⟩;cases e_) (by kernel_rfl) ⟨(bc_ BKB_.out 3).trans rfl,s1_,s2_,s3_,s4_⟩ (fun hHeld=>?_);refine with_tabW table_Decode.tab14 table_Decode.bits14 (fun HT_ HW_=>?_)
      generalize hwd_ : W_.drew=wd_ at HRB_ BKB_ HB_ s1_ s2_ s3_ s4_ hHeld ⊢
      refine pu_ (i:=0) (N:=some 69) (v:=?_) (a':=?_) #[Y,Z,Z,Z,Z,Z,Z,Z,Z,Z,Z,Z,Z,Z,Z,Z,Z,Z,Z,Z,Z,Z,Z] rfl rfl HT_.out (by kernel_rfl) (fun _ _ _ h=>h) (by rfl) ?_ ?_ ?_;rotate_left;(intro w';go_simp;with_reducible rfl);rotate_left;(simp only [Act.put,q1_,q2_,q3_,i64_w,i32_w];rfl)
      refine pu_ (i:=2) (N:=some 71) (v:=?_) (a':=?_) #[Y,Z,Y,Z,Z,Z,Z,Z,Z,Z,Z,Z,Z,Z,Z,Z,Z,Z,Z,Z,Z,Z,Z] rfl rfl HT_.out (by kernel_rfl) (fun _ _ _ h=>h) (by rfl) ?_ ?_ ?_;rotate_left;(intro w';go_simp;with_reducible rfl);rotate_left;(simp only [Act.put,q1_,q2_,q3_,i64_w,i32_w];rfl)
      refine pu_ (i:=3) (N:=some 72) (v:=?_) (a':=?_) #[Y,Z,Y,Y,Z,Z,Z,Z,Z,Z,Z,Z,Z,Z,Z,Z,Z,Z,Z,Z,Z,Z,Z] rfl rfl HT_.out (by kernel_rfl) (fun _ _ _ h=>h) (by rfl) ?_ ?_ ?_;rotate_left;(intro w';go_simp;with_reducible rfl);rotate_left;(simp only [Act.put,q1_,q2_,q3_,i64_w,i32_w];rfl)
      refine pu_ (i:=4) (N:=some 73) (v:=?_) (a':=?_) #[Y,Z,Y,Y,Y,Z,Z,Z,Z,Z,Z,Z,Z,Z,Z,Z,Z,Z,Z,Z,Z,Z,Z] rfl rfl HT_.out (by kernel_rfl) (fun _ _ _ h=>h) (by rfl) ?_ ?_ ?_;rotate_left;(intro w';go_simp;with_reducible rfl);rotate_left;(simp only [Act.put,q1_,q2_,q3_,i64_w,i32_w];rfl)
      refine pu_ (i:=6) (N:=some 75) (v:=?_) (a':=?_) #[Y,Z,Y,Y,Y,Z,Y,Z,Z,Z,Z,Z,Z,Z,Z,Z,Z,Z,Z,Z,Z,Z,Z] rfl rfl HT_.out (by kernel_rfl) (fun _ _ _ h=>h) (by rfl) ?_ ?_ ?_;rotate_left;(intro w';go_simp;with_reducible rfl);rotate_left;(simp only [Act.put,q1_,q2_,q3_,i64_w,i32_w];rfl)
      refine pu_ (i:=7) (N:=some 76) (v:=?_) (a':=?_) #[Y,Z,Y,Y,Y,Z,Y,Y,Z,Z,Z,Z,Z,Z,Z,Z,Z,Z,Z,Z,Z,Z,Z] rfl rfl HT_.out (by kernel_rfl) (fun _ _ _ h=>h) (by rfl) ?_ ?_ ?_;rotate_left;(intro w';go_simp;with_reducible rfl);rotate_left;(simp only [Act.put,q1_,q2_,q3_,i64_w,i32_w];rfl)
      refine pu_ (i:=8) (N:=some 77) (v:=?_) (a':=?_) #[Y,Z,Y,Y,Y,Z,Y,Y,Y,Z,Z,Z,Z,Z,Z,Z,Z,Z,Z,Z,Z,Z,Z] rfl rfl HT_.out (by kernel_rfl) (fun _ _ _ h=>h) (by rfl) ?_ ?_ ?_;rotate_left;(intro w';go_simp;with_reducible rfl);rotate_left;(simp only [Act.put,q1_,q2_,q3_,i64_w,i32_w];rfl)
      refine pu_ (i:=10) (N:=some 79) (v:=?_) (a':=?_) #[Y,Z,Y,Y,Y,Z,Y,Y,Y,Z,Y,Z,Z,Z,Z,Z,Z,Z,Z,Z,Z,Z,Z] rfl rfl HT_.out (by kernel_rfl) (fun _ _ _ h=>h) (by rfl) ?_ ?_ ?_;rotate_left;(intro w';go_simp;with_reducible rfl);rotate_left;(simp only [Act.put,q1_,q2_,q3_,i64_w,i32_w];rfl)
      refine pu_ (i:=11) (N:=some 80) (v:=?_) (a':=?_) #[Y,Z,Y,Y,Y,Z,Y,Y,Y,Z,Y,Y,Z,Z,Z,Z,Z,Z,Z,Z,Z,Z,Z] rfl rfl HT_.out (by kernel_rfl) (fun _ _ _ h=>h) (by rfl) ?_ ?_ ?_;rotate_left;(intro w';go_simp;with_reducible rfl);rotate_left;(simp only [Act.put,q1_,q2_,q3_,i64_w,i32_w];rfl)
      refine pu_ (i:=12) (N:=some 81) (v:=?_) (a':=?_) #[Y,Z,Y,Y,Y,Z,Y,Y,Y,Z,Y,Y,Y,Z,Z,Z,Z,Z,Z,Z,Z,Z,Z] rfl rfl HT_.out (by kernel_rfl) (fun _ _ _ h=>h) (by rfl) ?_ ?_ ?_;rotate_left;(intro w';go_simp;with_reducible rfl);rotate_left;(simp only [Act.put,q1_,q2_,q3_,i64_w,i32_w];rfl)
      refine pu_ (i:=14) (N:=some 83) (v:=?_) (a':=?_) #[Y,Z,Y,Y,Y,Z,Y,Y,Y,Z,Y,Y,Y,Z,Y,Z,Z,Z,Z,Z,Z,Z,Z] rfl rfl HT_.out (by kernel_rfl) (fun _ _ _ h=>h) (by rfl) ?_ ?_ ?_;rotate_left;(intro w';go_simp;with_reducible rfl);rotate_left;(simp only [Act.put,q1_,q2_,q3_,i64_w,i32_w];rfl)
      refine pu_ (i:=15) (N:=some 84) (v:=?_) (a':=?_) #[Y,Z,Y,Y,Y,Z,Y,Y,Y,Z,Y,Y,Y,Z,Y,Y,Z,Z,Z,Z,Z,Z,Z] rfl rfl HT_.out (by kernel_rfl) (fun _ _ _ h=>h) (by rfl) ?_ ?_ ?_;rotate_left;(intro w';go_simp;with_reducible rfl);rotate_left;(simp only [Act.put,q1_,q2_,q3_,i64_w,i32_w];rfl)
      refine pu_ (i:=16) (N:=some 85) (v:=?_) (a':=?_) #[Y,Z,Y,Y,Y,Z,Y,Y,Y,Z,Y,Y,Y,Z,Y,Y,Y,Z,Z,Z,Z,Z,Z] rfl rfl HT_.out (by kernel_rfl) (fun _ _ _ h=>h) (by rfl) ?_ ?_ ?_;rotate_left;(intro w';go_simp;with_reducible rfl);rotate_left;(simp only [Act.put,q1_,q2_,q3_,i64_w,i32_w];rfl)
      refine ta_ (i:=1) (N:=some 70) (v:=?_) (a':=?_) #[Y,Y,Y,Y,Y,Z,Y,Y,Y,Z,Y,Y,Y,Z,Y,Y,Y,Z,Z,Z,Z,Z,Z] rfl rfl HT_.out HW_.out (by kernel_rfl) (fun _ _ _ h=>h) (by rfl) ?_ hHeld ?_ ?_;rotate_left;(rintro w' ⟨z0,z1,z2,z3,z4⟩;go_simp;with_reducible rfl);rotate_left;(simp only [Act.put,q1_,q2_,q3_,i64_w,i32_w];rfl)
      refine ta_ (i:=5) (N:=some 74) (v:=?_) (a':=?_) #[Y,Y,Y,Y,Y,Y,Y,Y,Y,Z,Y,Y,Y,Z,Y,Y,Y,Z,Z,Z,Z,Z,Z] rfl rfl HT_.out HW_.out (by kernel_rfl) (fun _ _ _ h=>h) (by rfl) ?_ hHeld ?_ ?_;rotate_left;(rintro w' ⟨z0,z1,z2,z3,z4⟩;go_simp;with_reducible rfl);rotate_left;(simp only [Act.put,q1_,q2_,q3_,i64_w,i32_w];rfl)
      refine ta_ (i:=9) (N:=some 78) (v:=?_) (a':=?_) #[Y,Y,Y,Y,Y,Y,Y,Y,Y,Y,Y,Y,Y,Z,Y,Y,Y,Z,Z,Z,Z,Z,Z] rfl rfl HT_.out HW_.out (by kernel_rfl) (fun _ _ _ h=>h) (by rfl) ?_ hHeld ?_ ?_;rotate_left;(rintro w' ⟨z0,z1,z2,z3,z4⟩;go_simp;with_reducible rfl);rotate_left;(simp only [Act.put,q1_,q2_,q3_,i64_w,i32_w];rfl)
      refine ta_ (i:=13) (N:=some 82) (v:=?_) (a':=?_) #[Y,Y,Y,Y,Y,Y,Y,Y,Y,Y,Y,Y,Y,Y,Y,Y,Y,Z,Z,Z,Z,Z,Z] rfl rfl HT_.out HW_.out (by kernel_rfl) (fun _ _ _ h=>h) (by rfl) ?_ hHeld ?_ ?_;rotate_left;(rintro w' ⟨z0,z1,z2,z3,z4⟩;go_simp;with_reducible rfl);rotate_left;(simp only [Act.put,q1_,q2_,q3_,i64_w,i32_w];rfl)
      refine ta_ (i:=17) (N:=some 86) (v:=?_) (a':=?_) #[Y,Y,Y,Y,Y,Y,Y,Y,Y,Y,Y,Y,Y,Y,Y,Y,Y,Y,Z,Z,Z,Z,Z] rfl rfl HT_.out HW_.out (by kernel_rfl) (fun _ _ _ h=>h) (by rfl) ?_ hHeld ?_ ?_;rotate_left;(rintro w' ⟨z0,z1,z2,z3,z4⟩;go_simp;with_reducible rfl);rotate_left;(simp only [Act.put,q1_,q2_,q3_,i64_w,i32_w];rfl)
      refine pu_ (i:=18) (N:=some 87) (v:=?_) (a':=?_) #[Y,Y,Y,Y,Y,Y,Y,Y,Y,Y,Y,Y,Y,Y,Y,Y,Y,Y,Y,Z,Z,Z,Z] rfl rfl HT_.out (by kernel_rfl) (fun _ _ _ h=>h) (by rfl) ?_ ?_ ?_;rotate_left;(intro w';go_simp;with_reducible rfl);rotate_left;(simp only [Act.put,q1_,q2_,q3_,i64_w,i32_w];rfl)
      refine one_ (i:=19) (N:=some 88) #[Y,Y,Y,Y,Y,Y,Y,Y,Y,Y,Y,Y,Y,Y,Y,Y,Y,Y,Y,Y,Z,Z,Z] rfl rfl (one_of HT_.out (by kernel_rfl)) (by decide) (fun K hK=>?_)
      refine value_ (w1:=?_) (v:=?_) (by rfl) rfl ?_ ?_
      rotate_left 2
      ·go_simp
       constructor
       ·rfl
       ·rfl
      refine hK.out _ _ ⟨(bc_ (ka_ BKB_.out _) 3).trans rfl,(World.cell?_alloc_lt _ _ _ (wb_ _ _ s1_)).trans s1_,(World.cell?_alloc_lt _ _ _ (wb_ _ _ s2_)).trans s2_,(World.cell?_alloc_lt _ _ _ (wb_ _ _ s3_)).trans s3_,(World.cell?_alloc_lt _ _ _ (wb_ _ _ s4_)).trans s4_⟩ (fun hHeld=>?_)
      clear hK K
      refine norm_ (a':=?_) ?_ ?_;rotate_left;(show Act.put _ (some 88) _=_;simp only [Act.put,q1_,q2_,q3_,i64_w,i32_w];rfl)
      refine last_ (i:=20) (N:=some 89) #[Y,Y,Y,Y,Y,Y,Y,Y,Y,Y,Y,Y,Y,Y,Y,Y,Y,Y,Y,Y,Y,Z,Z] rfl rfl (one_of HT_.out (by kernel_rfl)) (by decide) (fun K hK=>?_)
      refine Kd.R_append_step k56 (w0:=wd_) B_ (by rfl) (.tmp 70) (.tmp 88) 24 56 (.agg #[(.int .i64 0),(.int .i64 0),(.int .i64 0),(.int .i64 0)]) 32 rfl Tryd.underlying24 info56 rfl (by decide) (by omega) u_ xs_ (⟨v1_,v0_,v2_,v3_⟩ : S56) [.int .i64 v1_,.int .i64 v0_,.int .i64 v2_,.int .i64 v3_] (fun _=>True) (fun _=>False) rfl rfl ?aP (fun _ hk=>hk.elim) ?aF ?aO ?aB ?aS ?aL ?_
      (case aP=>exact k56_mkM _ _ _ (⟨v1_,v0_,v2_,v3_⟩ : S56))
      (case aB=>exact Below.refl _ _)
      (case aF=>exact (fun _ _=>trivial))
      (case aO=>exact HRB_.out)
      (case aS=>exact HB_.out)
      (case aL=>omega)
      intro v_ we_ ho_ hb_ hg_ hat_
      have BKE_:=A_ (blk_grown (g:=gb286) (o:=.cells #[.int .i64 ((rd_T51 t272 1).f1),.int .i64 ((rd_T51 t272 2).f1),.int .i64 ((rd_T51 t272 3).f1),u_] 26 (0,0)) BKB_.out hg_ (Kd.R_ne HRB_.out BKB_.out (by decide)))
      obtain ⟨ye_,hye_⟩ : ∃ y_ : List S56,y_=xs_++[(⟨v1_,v0_,v2_,v3_⟩ : S56)]:=⟨_,rfl⟩
      rw [← hye_] at ho_;have HYE_:=A_ hye_;clear hye_;obtain ⟨Av_,cv_,ev_⟩:=Kd.R_slice ho_;subst ev_;clear BKB_ hat_;refine hK.out _ _ ?_;clear hK K
      refine norm_ (a':=?_) ?_ ?_;rotate_left;(show Act.put _ (some 89) _=_;simp only [Act.put,q1_,q2_,q3_,i64_w,i32_w];rfl)
      refine pu_ (i:=21) (N:=some 90) (v:=?_) (a':=?_) #[Y,Y,Y,Y,Y,Y,Y,Y,Y,Y,Y,Y,Y,Y,Y,Y,Y,Y,Y,Y,Y,Y,Z] rfl rfl HT_.out (by kernel_rfl) (fun _ _ _ h=>h) (by rfl) ?_ ?_ ?_;rotate_left;(intro w';go_simp;with_reducible rfl);rotate_left;(simp only [Act.put,q1_,q2_,q3_,i64_w,i32_w];rfl)
      refine last_ (i:=22) (N:=none) #[Y,Y,Y,Y,Y,Y,Y,Y,Y,Y,Y,Y,Y,Y,Y,Y,Y,Y,Y,Y,Y,Y,Y] rfl rfl (one_of HT_.out (by kernel_rfl)) (by decide) (fun K hK=>?_)
      have hsE_ : we_.cell? ⟨gb286,3,none⟩=some (u_):=(bc_ BKE_.out 3).trans rfl;have hfE_:=bf_ BKE_.out 3
      refine skip_ (w1:=?_) (by rfl) rfl ?_ ?_
      rotate_left
      ·go_simp
       rfl
      refine hK.out _ _ ?_;clear hK K;refine done_ (done_of HT_.out (by kernel_rfl)) ?_
      try simp only [Exit.inBlock,Exit.then]
      have hkp_:=keep_put (W:=W_) (W1:=we_) (row:=u_.ownBlock) (j:=3) (v:=.slice Av_ ye_.length cv_) (g:=gb286) (by rw [hwd_];exact hg_)
      refine ⟨rfl,_,blk_put (cs:=#[.int .i64 ((rd_T51 t272 1).f1),.int .i64 ((rd_T51 t272 2).f1),.int .i64 ((rd_T51 t272 3).f1),u_]) BKE_.out 3 _ rfl,?_,hkp_.1,hkp_.2⟩;rw [← HYE_.out]
      exact Kd.R_mono (rf_ (p:=⟨gb286,3,none⟩) (Kd.R_types ho_ BKE_.out (by decide)) (fun _ hk=>hk.2) _) (fun _ _=>trivial)
     case done1 =>
      intro D_ W_ u_ hD_ hK_ h0_ hk_ hbk_ hR_;have hDz_:=(Array.getElem?_eq_some_iff.1 hK_).1;rw [← hE_] at hR_;clear hE_ hN1_ hcA_ hbs_ hbn_
      have HO293:=A_ (Kd.R_lower hR_ (by omega : w.heap.size≤wl_.heap.size))
      have n2_:=A_ ((hk_.2 gb257 (by omega) NB257_286.out (by simp)).trans BK257.out)
      have n5_:=A_ (below_keep' HB.out h0_ hk_ GE286.out (Nat.le_refl _));have KD_:=A_ hK_
      have hDn0_ : D_≠gb257:=by omega
      have hDn1_ : D_≠gb286:=by omega
      have GD_ : w.heap.size≤D_:=by omega
      clear BK257 BK286 HB HO_6 HR290 hR_;have BK257:=n2_;have HB:=n5_;have BK286:=A_ hbk_;clear n2_ n5_ hbk_ hK_ h0_ hk_;obtain ⟨Ao54,co54,eo_⟩:=Kd.R_slice HO293.out;subst eo_;have hnb_:=NB286_257.out;have hnc_:=NB257_286.out;obtain ⟨hczi_0,hczi_1,hczi_2,hczi_3⟩:=blkc_4 BK286.out;obtain ⟨hfzi_0,hfzi_1,hfzi_2⟩:=blkz_3 BK286.out;have hfzi_3:=bf_ BK286.out 3
      dsimp only
      try simp only [Exit.inBlock,Exit.then]
      apply_assumption
      try go_wp2_with ((with_reducible refine gate_callee (f:=13) rfl ?_);refine goesL_ (some 92) rfl rfl Tryd.func13 (by kernel_rfl) rfl #[.agg #[.int .i64 ((rd_T51 t272 1).f1),.int .i64 ((rd_T51 t272 2).f1),.int .i64 ((rd_T51 t272 3).f1),.slice Ao54 t291.length co54]] rfl (by (try simp only [List.map_toArray,List.map_cons,List.map_nil]);first|done|rfl|(simp only [List.length_drop,List.length_take];rfl)) ?_;(with_reducible refine (table_Check.calls kj19 ((rd_T51 t272 1).f1) ((rd_T51 t272 2).f1) ((rd_T51 t272 3).f1) _ _ t291 t294 _ ?side1 ?side2 A42.out).mono ?_);(case side1=>exact (Kd.R_reads' HO293.out).2.2);(case side2=>exact (Kd.R_reads' HO293.out).2.1);rintro e wk_ ⟨rfl,hb⟩;refine ⟨_,rfl,?_⟩;have n0_:=A_ (Kd.R_below (by exact HO293.out) hb);have n1_:=A_ (bb_ (by exact BK257.out) hb);have n2_:=A_ (bb_ (by exact BK286.out) hb);have n3_:=A_ (bp_ (by exact HB.out) hb);have n4_:=A_ (bb_ (by exact KD_.out) hb);clear HO293;clear BK257;clear BK286;clear HB;clear KD_;have HO293:=n0_;have BK257:=n1_;have BK286:=n2_;have HB:=n3_;have KD_:=n4_;clear n0_ n1_ n2_ n3_ n4_;clear hb;obtain ⟨hczj_0,hczj_1,hczj_2,hczj_3⟩:=blkc_4 BK286.out;obtain ⟨hfzj_0,hfzj_1,hfzj_2,hfzj_3⟩:=blkz_4 BK286.out;obtain ⟨hczk_0,hczk_1,hczk_2,hczk_3⟩:=blkc_4 BK257.out;obtain ⟨hfzk_0,hfzk_1,hfzk_2⟩:=blkz_3 BK257.out;have hfzk_3:=bf_ BK257.out 3)
      refine bodyPostR_mark (D:=D_) (by (repeat (refine (Below.heap_setCell _ _ _ _ hDn0_).trans ?_));exact KD_.out) (results_ct rfl _ _ gb257 26 #[.int .i64 ((rd_T51 t272 1).f1),.int .i64 ((rd_T51 t272 2).f1),.int .i64 ((rd_T51 t272 3).f1),.slice Ao54 t291.length co54] (0,0) _ rfl (blk_close (by refine kk_ ?_;apply blkf_4_0_3;exact kk_ BK257.out) (by (repeat (refine (Below.heap_setCell _ _ _ _ hDn0_).trans ?_));exact KD_.out)) Tryd.underlying26 rfl (by kernel_rfl)) rfl ?_
      exact ⟨_,by first|rfl|(simp [errW_none,errW_some] <;> rfl)|(simp [*,errW_none,errW_some] <;> rfl),R_close (by (with_reducible repeat (first|apply ra_|apply rn_|apply re_));exact Kd.R_mono (rf_ (p:=⟨gb257,3,none⟩) (rf_ (p:=⟨gb257,2,none⟩) (rf_ (p:=⟨gb257,1,none⟩) (rf_ (p:=⟨gb257,0,none⟩) (Kd.R_types HO293.out BK257.out (by decide)) (fun _ hk=>hk.2) (.int .i64 ((rd_T51 t272 1).f1))) (fun _ hk=>hk.2) (.int .i64 ((rd_T51 t272 2).f1))) (fun _ hk=>hk.2) (.int .i64 ((rd_T51 t272 3).f1))) (fun _ hk=>hk.2) (.slice Ao54 t291.length co54)) (fun _ hk=>trivial)) (by (repeat (refine (Below.heap_setCell _ _ _ _ hDn0_).trans ?_));exact KD_.out),below_close (bs_ (bs_ (bs_ (bs_ HB.out GE257.out) GE257.out) GE257.out) GE257.out) (by (repeat (refine (Below.heap_setCell _ _ _ _ hDn0_).trans ?_));exact KD_.out) GD_ (Nat.le_refl _)⟩
end Go.Proofs.YtbmcbhpkefjhbaaDoor.P
namespace Go.Proofs.YtbmcbhpkefjhbaaDoor.P
open Go.RowKit YtbmcbhpkefjhbaaDoor YtbmcbhpkefjhbaaDoor.Mem YtbmcbhpkefjhbaaDoor.Pac YtbmcbhpkefjhbaaDoorW.PrintWords YtbmcbhpkefjhbaaDoorW.PrintLast YtbmcbhpkefjhbaaDoorW.PrintMore
abbrev TbT:=Int × Int × Int × List Ent × Int
def tErr : TbT:=(0,0,0,[],4)
theorem tTake_none {b ks : List Int} (hb : Bytes b) (hl : b.length≤1000000) (hks : ks.length≤1000000) (hok : kindsOk ks=true) (h : takes b 0 ks=none) : takeF b ks=some ([],0,4):=by
  unfold takeF takeR
  rw [if_pos ⟨byB_bytes.2 hb,hl,hks⟩,if_pos hok,h]; rfl
theorem tTake_some {b ks : List Int} {l : List It} {r : Nat} (hb : Bytes b) (hl : b.length≤1000000) (hks : ks.length≤1000000) (hok : kindsOk ks=true) (h : takes b 0 ks=some (l,r)) : takeF b ks=some (l.map ofIt,(r : Int),0):=by
  unfold takeF takeR
  rw [if_pos ⟨byB_bytes.2 hb,hl,hks⟩,if_pos hok,h]
theorem it_form {a : It} {k : Int} (h : may a=true) (hk : a.k=k) (h3 : k=1∨k=2∨k=3) : a=mkI k a.n:=by
  have:=(form123 h (by rw [hk]; exact h3)).1
  rw [hk] at this;exact this
theorem ents_of : ∀ (d : Nat) (R : List It),R.map (·.k)=reps d eK→(∀ a ∈ R,may a=true)→∃ E : List Ent,E.length=d∧R=entsI E
  | 0,R,hk,hm=>by
    have : R=[]:=by
      have h : (R.map (·.k)).length=0:=by rw [hk]; rfl
      rw [List.length_map] at h;exact List.eq_nil_of_length_eq_zero h
    subst this;exact ⟨[],rfl,rfl⟩
  | d + 1,R,hk,hm=>by
    rw [reps_succ] at hk
    match R,hk,hm with
    | [],hk,_=>cases hk
    | [_],hk,_=>simp at hk
    | [_,_],hk,_=>simp at hk
    | [_,_,_],hk,_=>simp at hk
    | a0 :: a1 :: a2 :: a3 :: R,hk,hm =>
      simp only [List.map_cons,List.cons_append,List.nil_append,List.cons.injEq] at hk
      obtain ⟨k0,k1,k2,k3,hk⟩:=hk
      obtain ⟨E,hl,he⟩:=ents_of d R hk (fun a ha=>hm a (by simp [ha]))
      refine ⟨⟨a1.n,a0.n,a2.n,a3.n⟩ :: E,by rw [List.length_cons,hl],?_⟩
      rw [entsI_cons,← he]
      have f0:=it_form (hm a0 (by simp)) k0 (.inl rfl)
      have f1:=it_form (hm a1 (by simp)) k1 (.inr (.inr rfl))
      have f2:=it_form (hm a2 (by simp)) k2 (.inr (.inl rfl))
      have f3:=it_form (hm a3 (by simp)) k3 (.inr (.inr rfl))
      rw [← f0,← f1,← f2,← f3]
theorem tab_of {l : List It} (hk : l.map (·.k)=tKs) (hm : ∀ a ∈ l,may a=true) : ∃ m a b c E,E.length=12∧l=tabI m a b c E∧0≤m∧m≤255:=by
  match l,hk,hm with
  | [],hk,_=>cases hk
  | [_],hk,_=>simp at hk
  | [_,_],hk,_=>simp at hk
  | [_,_,_],hk,_=>simp at hk
  | a0 :: a1 :: a2 :: a3 :: R,hk,hm =>
    have hk2 : a0.k=1∧a1.k=3∧a2.k=3∧a3.k=3∧R.map (·.k)=reps 12 eK:=by
      simp only [List.map_cons,tKs,List.cons_append,List.nil_append,List.cons.injEq] at hk
      exact hk
    obtain ⟨k0,k1,k2,k3,hk⟩:=hk2
    obtain ⟨E,hl,he⟩:=ents_of 12 R hk (fun a ha=>hm a (by simp [ha]))
    have f0:=it_form (hm a0 (by simp)) k0 (.inl rfl)
    have f1:=it_form (hm a1 (by simp)) k1 (.inr (.inr rfl))
    have f2:=it_form (hm a2 (by simp)) k2 (.inr (.inr rfl))
    have f3:=it_form (hm a3 (by simp)) k3 (.inr (.inr rfl))
    have g0:=(form123 (hm a0 (by simp)) (.inl k0)).2
    rw [k0] at g0;refine ⟨a0.n,a1.n,a2.n,a3.n,E,hl,?_,g0.1,g0.2⟩
    unfold tabI
    rw [← f0,← f1,← f2,← f3,he]
def rdI (M : List SIt) (i : Nat) : Int:=(rd_T51 M (i : Int)).f1
theorem rdI_cons (x : SIt) (M : List SIt) (i : Nat) : rdI (x :: M) (i + 1)=rdI M i:=by
  unfold rdI rd_T51
  rw [Int.toNat_natCast,Int.toNat_natCast,List.getD_cons_succ]
theorem rdI_ents : ∀ (E : List Ent) (j : Nat),j<E.length→rdI ((entsI E).map ofIt) (4 * j)=(rdE E j).f1∧rdI ((entsI E).map ofIt) (4 * j + 1)=(rdE E j).f0∧rdI ((entsI E).map ofIt) (4 * j + 2)=(rdE E j).f2∧rdI ((entsI E).map ofIt) (4 * j + 3)=(rdE E j).f3
  | [],j,h=>by cases h
  | e :: E,0,h=>by
    rw [entsI_cons];exact ⟨rfl,rfl,rfl,rfl⟩
  | e :: E,j + 1,h=>by
    have ih:=rdI_ents E j (by simpa using h)
    have hr : rdE (e :: E) (j + 1)=rdE E j:=by
      unfold rdE rd_T56
      rw [Int.toNat_natCast,Int.toNat_natCast,List.getD_cons_succ]
    rw [entsI_cons,hr]
    simp only [List.map_cons]
    rw [show 4 * (j + 1)=4 * j + 3 + 1 by omega]
    have s : ∀ i x0 x1 x2 x3,rdI (x0 :: x1 :: x2 :: x3 :: (entsI E).map ofIt) (i + 4)=rdI ((entsI E).map ofIt) i:=by
      intro i x0 x1 x2 x3
      rw [show i + 4=i + 3 + 1 by omega,rdI_cons,show i + 3=i + 2 + 1 by omega,rdI_cons,show i + 2=i + 1 + 1 by omega,rdI_cons,rdI_cons]
    rw [show 4 * j + 3 + 1=4 * j + 4 by omega,show 4 * j + 4 + 1=(4 * j + 1) + 4 by omega,show 4 * j + 4 + 2=(4 * j + 2) + 4 by omega,show 4 * j + 4 + 3=(4 * j + 3) + 4 by omega,s,s,s,s]
    exact ih
theorem chE_tab {m a b c : Int} {E : List Ent} {j : Nat} (h : j<E.length) : chE (((tabI m a b c E).map ofIt).drop 4) j=rdE E j:=by
  have e : ((tabI m a b c E).map ofIt).drop 4=(entsI E).map ofIt:=rfl;obtain ⟨h0,h1,h2,h3⟩:=rdI_ents E j h;rw [e]
  unfold chE
  unfold rdI at h0 h1 h2 h3
  rw [h0,h1,h2,h3]
theorem map_rdE (E : List Ent) : (List.finRange E.length).map (fun x=>rdE E x.1)=E:=by
  apply List.ext_getElem
  · simp
  · intro i h1 h2
    rw [List.getElem_map,List.getElem_finRange];have h3:=rdE_at h2;rw [List.getElem?_eq_getElem h2] at h3;exact (Option.some.inj h3).symm
theorem Chunk_ev {m a b c : Int} {E : List Ent} (h : E.length=12) : slices_Chunk_api_Item_api_Item.f (((tabI m a b c E).map ofIt).drop 4) 4=some E:=by
  have hl : (((tabI m a b c E).map ofIt).drop 4).length=48:=by rw [List.length_drop,List.length_map,tabI_count]; omega
  unfold slices_Chunk_api_Item_api_Item.f
  rw [if_pos ⟨rfl,by omega,by omega,by omega⟩]
  congr 1
  rw [hl]
  have e : (48 / 4 : Nat)=E.length:=by rw [h]
  have hm:=map_rdE E;rw [← e] at hm
  refine (List.map_congr_left (fun x _=>?_)).trans hm
  exact chE_tab (by have:=x.2; omega)
theorem zeros_any {x : List Int} : (x.any fun e=>e != 0)=false ↔ x=List.replicate x.length 0:=by
  constructor
  · intro h
    rw [List.any_eq_false] at h
    refine List.eq_replicate_iff.2 ⟨rfl,fun b hb=>?_⟩
    have:=h b hb
    simpa using this
  · intro h
    rw [List.any_eq_false];intro e he;rw [h,List.mem_replicate] at he;rw [he.2]; decide
def decX (x : List Int) : TbT :=
  match takes x 0 tKs with
  | none=>tErr
  | some (l,n)=>match l with
    | i0 :: i1 :: i2 :: i3 :: R=>if i0.n=84∧(x.drop n).any (fun e=>e != 0)=false∧MayT i1.n i2.n i3.n ((List.finRange 12).map fun j=>chE (R.map ofIt) j.1)=true then (i1.n,i2.n,i3.n,(List.finRange 12).map fun j=>chE (R.map ofIt) j.1,0) else tErr
    | _=>tErr
theorem decX_tab {x : List Int} {m a b c : Int} {E : List Ent} {n : Nat} (h : takes x 0 tKs=some (tabI m a b c E,n)) (hE : E.length=12) : decX x=if m=84∧(x.drop n).any (fun e=>e != 0)=false∧MayT a b c E=true then (a,b,c,E,0) else tErr:=by
  unfold decX
  rw [h]
  have e : (List.finRange 12).map (fun j=>chE ((entsI E).map ofIt) j.1)=E:=by
    have hm:=map_rdE E;rw [hE] at hm
    refine (List.map_congr_left (fun x _=>?_)).trans hm
    exact chE_tab (m:=m) (a:=a) (b:=b) (c:=c) (by have:=x.2; omega)
  unfold tabI
  simp only
  rw [e];rfl
theorem dec_j1 {k : Nat} {m a b c : Int} {E : List Ent} (hE : E.length=12) (bad : Bool) (hk : 61≤k) : table_Decode.j1 k ((tabI m a b c E).map ofIt) bad=some (if bad=false∧MayT a b c E=true then (a,b,c,E,0) else tErr):=by
  obtain ⟨k,rfl⟩ : ∃ q,k=q + 1:=⟨k - 1,by omega⟩
  have hl : ((tabI m a b c E).map ofIt).length=52:=by rw [List.length_map,tabI_count]; omega
  rw [table_Decode.j1]
  cases bad with
  | true=>rw [if_pos rfl,if_neg (by simp)]; rfl
  | false =>
    rw [if_neg (by decide),if_pos (by omega),if_pos (by omega),if_pos (by omega),if_pos (by omega),Chunk_ev hE,Option.bind_some]
    have e1 : (rd_T51 ((tabI m a b c E).map ofIt) 1).f1=a:=rfl;have e2 : (rd_T51 ((tabI m a b c E).map ofIt) 2).f1=b:=rfl;have e3 : (rd_T51 ((tabI m a b c E).map ofIt) 3).f1=c:=rfl
    rw [e1,e2,e3,Chk_ev (by omega),Option.bind_some]
    cases MayT a b c E with
    | true=>rw [if_pos rfl,if_pos rfl,if_pos ⟨rfl,rfl⟩]
    | false=>rfl
theorem tdec_j0 {k : Nat} {x : List Int} (hb : Bytes x) (hl : x.length=508) (hk : 1000≤k) : table_Decode.j0 k x 0 false=some (decX x):=by
  obtain ⟨k,rfl⟩ : ∃ q,k=q + 1:=⟨k - 1,by omega⟩
  rw [table_Decode.j0,if_neg (by decide),kinds_ev,Option.bind_some]
  unfold pack_Take.f
  cases ht : takes x 0 tKs with
  | none =>
    have : decX x=tErr:=by unfold decX; rw [ht]
    obtain ⟨k,rfl⟩ : ∃ q,k=q + 1:=⟨k - 1,by omega⟩
    rw [tTake_none hb (by omega) (by rw [tKs_len]; decide) tKs_ok ht,Option.bind_some,if_neg (by decide),table_Decode.j1,if_pos rfl,this]; rfl
  | some p =>
    obtain ⟨l,n⟩:=p;obtain ⟨t1,t2,t3,t4,t5,t6,t7⟩:=takes_spec hb _ _ _ _ (Nat.zero_le _) tKs_ok ht;obtain ⟨m,a,b,c,E,hE,rfl,h0,h1⟩:=tab_of t3 t4
    have hM : ((tabI m a b c E).map ofIt).length=52:=by rw [List.length_map,tabI_count]; omega
    rw [tTake_some hb (by omega) (by rw [tKs_len]; decide) tKs_ok ht,Option.bind_some,if_pos rfl,if_pos (by show (0 : Int)<(((tabI m a b c E).map ofIt).length : Int); omega),decX_tab ht hE]
    have e0 : (rd_T51 ((tabI m a b c E).map ofIt) 0).f1=m:=rfl
    show (if (rd_T51 ((tabI m a b c E).map ofIt) 0).f1=84 then _ else _)=_
    rw [e0]
    by_cases hm : m=84
    · rw [if_pos hm,if_pos (by show (0 : Int)≤(n : Int); omega),if_pos (by show (n : Int)≤_; omega)]
      show (table_nought.f k (x.drop ((n : Int)).toNat)).bind _=_
      rw [Int.toNat_natCast,noughtT_ev (by rw [List.length_drop]; omega) (by rw [List.length_drop]; omega),Option.bind_some,Bool.not_not,dec_j1 hE _ (by omega)]
      congr 1
      simp only [hm,true_and]
    · rw [if_neg hm,dec_j1 hE _ (by omega),if_neg (by simp),if_neg (fun h=>hm h.1)]
end Go.Proofs.YtbmcbhpkefjhbaaDoor.P
