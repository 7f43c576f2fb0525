/- TableCodes (humuslaw11),the card: whatever table comes in,the program's and the document's judgement are one,its page is the document's and is read back; the row's listed variables (unicode/utf8's two tables) are tied to the program's text. Conditions: none beyond the row's own. -/
import Derived.Test.YtbmcbhpkefjhbaaDoorMTableCodes8
import Derived.Below
import Derived.ChangeOld
import Derived.LaidLaws
import Derived.LaidMore
import Derived.Laws.Cover2
import Derived.Lay
import Derived.MakeChecks
import Derived.OpenShut
import Derived.ProofKit
import Derived.SevenTiedAt
import Derived.ShutString
import Derived.SizedLaws
import Derived.Stop.Joined
import Derived.Test.YtbmcbhpkefjhbaaDoorCards
import Derived.Test.YtbmcbhpkefjhbaaDoorRows
import Derived.Test.YtbmcbhpkefjhbaaDoorTie
import Derived.WalkKit
import Derived.Test.YtbmcbhpkefjhbaaDoorMTableCodes23
set_option linter.unusedVariables false
namespace Go.Proofs.YtbmcbhpkefjhbaaDoor.tableCodes
open Go.ChangeShapes Go.WideShapes Go.ChangeAt Go.RowKit YtbmcbhpkefjhbaaDoor.P
theorem own : ownKnob Tryd.prog.godebug=none:=by kernel_rfl
theorem laidOut : laidOutB Tryd.prog=true:=by kernel_rfl
set_option maxRecDepth 100000 in
theorem lifted (os : Os) (started : os.Started) (H : Type) (enc : TypeId × Value→H) :
    ReturnsInHanded {} Tryd.checked os 4 .any (fun w args=>(Rows.tableCodesSpec.pre enc Tryd.prog Tryd.f4 Rows.tableCodesRow.domain false w args∧laidMetH Tryd.prog Rows.tableCodesRow.laid w)∧sizedMet enc Tryd.prog Tryd.f4 (OpenSpec.ofChange Rows.tableCodesSpec) false w args)
      (Rows.tableCodesSpec.post enc Tryd.prog Tryd.f4 false true false false):=by
  refine returnsInHanded_of_change_and (C:=Tryd.checked) (X:=fun w _=>laidMetH Tryd.prog Rows.tableCodesRow.laid w) (fun _ _ _ hh h=>h.of_heap hh) own started (by kernel_rfl) Tryd.func4
    (ChangeSpec.witness_shaped (enc:=enc) (C:=Tryd.checked) (os:=os) (X:=fun w _=>laidMetH Tryd.prog Rows.tableCodesRow.laid w) false (World.laidAll Tryd.prog os Rows.tableCodesRow.laid) #[.agg #[.int .i64 0,.int .i64 0,.int .i64 0,.slice none 0 0]] 8 (World.laidAll_os _ _ _)
      (World.shaped_of_ZipB (by kernel_rfl) (by kernel_rfl)) (by kernel_rfl) (by kernel_rfl) (by kernel_rfl)
      (by rw [MakeChecks.laidMetH_plain _ _ _ (by kernel_rfl)]; exact laidMet_laidAll _ (by kernel_rfl) (by kernel_rfl))) ?_
  intro W base args ds gs before hval0 hW hcnd hsz0 hL _;have hsz : (DataW.weightsEach Tryd.prog (Tryd.f4.params.toList++Rows.tableCodesSpec.plain.varTypes Tryd.prog) (ds++gs)).all (·≤reachBytes)=true:=hsz0
  have hval : ∀ (j : Nat) t v,Tryd.f4.params[j]?=some t→args[j]?=some v→Value.okWide Tryd.prog W .any base t v:=hval0
  have hW':=hW;obtain ⟨p,q,hA0,hV,rfl,hfz,hnd⟩:=hW
  have hA : DataW.TrodAll enc Tryd.prog W 0 (fun _=>true) true Tryd.f4.params.toList args.toList ds p:=hA0
  rw [Tryd.params4] at hA hval hsz;obtain ⟨v0,vs0,d0,ds0,p0,q0,hargs,rfl,rfl,h0,r0⟩:=trodAll_cons hA;obtain ⟨rfl,rfl,rfl⟩:=trodAll_nil r0
  obtain rfl : args=#[v0]:=by cases args; simp_all
  obtain ⟨rfl,rfl⟩:=trodVars_none hV;have k0:=h0
  have lt0 : ∀ x ∈ p0,x.block<W.heap.size:=by obtain ⟨m,hm⟩:=k0; exact DataW.trod_lt m _ _ _ hm
  obtain ⟨a0,b0,c0,E0,A0,e0,rfl,l0,rp0⟩:=P.open_table (hval 0 26 v0 rfl rfl) h0;clear hA0 hval0 hsz0 hsz
  refine (TableCodes_walk (w:=W) a0 b0 c0 E0 A0 e0 l0 rp0).mono fun e W' ⟨he,bel⟩=>?_
  subst he
  exact ⟨_,rfl,_,_,_,[],_,[],hW',trodAll_mk1 (shut_bool Tryd.underlying4 _),(trodAll_cons_mk (Below.trod laidOut (by kernel_rfl) (od_ (by kernel_rfl)) k0 bel lt0) trodAll_mk0),rfl,bel.frame _,fun h=>by cases h⟩
theorem over : Rows.tableCodesRow.holds Tryd.pinned (OpenSpec.ofChange Rows.tableCodesSpec) :=
  OpenClaim.holds_of_wide 4 Tryd.f4 rfl rfl rfl rfl rfl rfl rfl ⟨rfl,rfl,rfl,rfl,rfl⟩ rfl rfl rfl rfl rfl (by kernel_rfl) Tryd.func4 (by kernel_rfl)
    (od_ (by kernel_rfl)) (by unfold Func.isWrapper; first|(rw [if_pos (by decide +kernel)]; kernel_rfl)|(rw [if_neg (by decide +kernel)]; exact ⟨rfl,rfl⟩))
    (fun os started H enc _=>lifted os started H enc)
theorem proved : Rows.TableCodesSaid:=over
#print axioms proved
end Go.Proofs.YtbmcbhpkefjhbaaDoor.tableCodes
namespace Go.Proofs.YtbmcbhpkefjhbaaDoor
theorem tableCodes_holds : Rows.TableCodesSaid:=tableCodes.proved
theorem tableCodes_card_holds : Rows.TableCodesCardSaid :=
  Claim7.holds_tied_plain_at .later [] [.data, .pinned] true (true, "fde65b8ede6968093407e0bc4db0186ff5dd4632b066566a003f2bc4be3c8c29") true
    tableCodes.proved (fun _ h=>by cases h) (by kernel_rfl) (fun _ h=>by cases h) tableCodes_row_tie rfl ⟨rfl,rfl⟩ (by kernel_rfl) rfl
    (fun f fn hf hfn=>by
      obtain rfl : f = 4 := Option.some.inj ((show Tryd.prog.funcNamed "humus/humuslaw11.TableCodes" = some 4 by kernel_rfl).symm.trans hf) |>.symm
      obtain rfl : fn=Tryd.f4:=(Option.some.inj (Tryd.func4.symm.trans hfn)).symm
      exact ⟨by kernel_rfl,fun j t ht=>by
        rw [Tryd.params4] at ht
        have h3 : t=26:=by
          rcases j with _|j
          · simpa using ht.symm
          · simp at ht
        subst h3
        exact (show Tryd.prog.wantsStandIn 26=false by kernel_rfl)⟩)
    (by kernel_rfl)
#print axioms tableCodes_card_holds
end Go.Proofs.YtbmcbhpkefjhbaaDoor
