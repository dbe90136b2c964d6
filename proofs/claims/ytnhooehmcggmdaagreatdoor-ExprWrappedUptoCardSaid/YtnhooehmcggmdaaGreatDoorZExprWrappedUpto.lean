/- Proved: the statement ExprWrappedUptoCardSaid: the law ExprWrapped returns true for every input within the statement's bound, and its arguments read behind the call as they read before. Conditions: none beyond the statement's own. -/
import Derived.Test.YtnhooehmcggmdaaGreatDoorZ51
import Derived.Test.YtnhooehmcggmdaaGreatDoorZ41
import Derived.Test.YtnhooehmcggmdaaGreatDoorZ36
import Derived.Test.YtnhooehmcggmdaaGreatDoorZ45
namespace Go.Proofs.YtnhooehmcggmdaaGreatDoor.exprWrapped
set_option maxHeartbeats 16000000
set_option linter.unusedVariables false
set_option linter.unusedSimpArgs false
set_option linter.unusedSectionVars false
open Go.ChangeShapes Go.WideShapes Go.ChangeAt Go.RowKit
open Go.ChangeMaps (open_string shut_string)
theorem own:ownKnob Tryz.prog.godebug=none:=by kernel_rfl
theorem laidOut:laidOutB Tryz.prog=true:=by kernel_rfl
set_option maxRecDepth 100000 in
theorem reads (os:Os) {H:Type} (enc:TypeId × Value→H):∃ places,DataW.whole enc Tryz.prog ((Zdr os).forCall (fun _ _=>0) ⟨#[],#[.agg #[.int .u8 0,.int .i64 0,.string ByteArray.empty,.string ByteArray.empty,.slice none 0 0,.slice none 0 0]],[]⟩).memory Tryz.f8.params.toList Rows.exprWrappedSpec.vars false (#[.agg #[.int .u8 0,.int .i64 0,.string ByteArray.empty,.string ByteArray.empty,.slice none 0 0,.slice none 0 0]]:Array Value).toList 8=some ([.agg [.lit (.int .u8 0),.lit (.int .i64 0),.lit (.string []),.lit (.string []),.nil,.nil]],[],places):=
 ⟨[],by kernel_rfl⟩
set_option maxRecDepth 100000 in
theorem lifted (os:Os) (started:os.Started) (H:Type) (enc:TypeId × Value→H) (F:Stop.Interp) :
 ReturnsInHanded {} Tryz.checked os 8 .any ((Rows.OpenSpec.upto Rows.exprWrappedSpec).preRow enc Tryz.prog Tryz.f8 Rows.exprWrappedUptoRow.domain false Rows.exprWrappedUptoRow.laid) (((Rows.OpenSpec.upto Rows.exprWrappedSpec).at F).post enc Tryz.prog Tryz.f8 false true false false):=by
 obtain ⟨places,hx⟩:=reads os enc
 refine returnsInHanded_of_row (C:=Tryz.checked) (s:=Rows.OpenSpec.upto Rows.exprWrappedSpec) own started (by kernel_rfl) Tryz.func8
  (witness_row_atRef (enc:=enc) (C:=Tryz.checked) false (Zdr os) #[.agg #[.int .u8 0,.int .i64 0,.string ByteArray.empty,.string ByteArray.empty,.slice none 0 0,.slice none 0 0]] rfl (by kernel_rfl) (by kernel_rfl) (by kernel_rfl)
    (OpenSpec.preRow_of_cond 8 hx (by kernel_rfl) (fun k hk=>by cases hk;kernel_rfl) (by kernel_rfl) (Zko os _))) ?_
 intro W base args ds gs before hval0 hW hcnd hk0 hsz0 hL hsh _
 have hk:=hk0 _ rfl
 have hsz:(DataW.weightsEach Tryz.prog (Tryz.f8.params.toList ++ (Rows.OpenSpec.upto Rows.exprWrappedSpec).bare.plain.varTypes Tryz.prog) (ds ++ gs)).all (·≤reachBytes)=true:=hsz0
 have hval:∀ (j:Nat) t v,Tryz.f8.params[j]?=some t→args[j]?=some v→Value.okWide Tryz.prog W .any base t v:=hval0
 have hW':=hW
 obtain ⟨p,q,hA0,hV,rfl,hfz,hnd⟩:=hW
 have hA:DataW.TrodAll enc Tryz.prog W 0 (fun _=>true) true Tryz.f8.params.toList args.toList ds p:=hA0
 rw[Tryz.params8]at hA hval
 obtain ⟨v0,vs0,d0,ds0,p0,q0,hargs,rfl,rfl,h0,r0⟩:=trodAll_cons hA
 obtain ⟨rfl,rfl,rfl⟩:=trodAll_nil r0
 obtain rfl:args=#[v0]:=by cases args;simp_all
 obtain ⟨rfl,rfl⟩:=trodVars_none hV
 have hbound:=of_decide_eq_true hk
 have y0:=(fun k hk=>by simpa using List.all_eq_true.1 hsz k (DataW.weights_mem_each (j:=0) rfl rfl k hk):∀ k ∈ d0.weights Tryz.prog 26,k≤reachBytes)
 obtain ⟨a0,A0,rfl,t0,u0⟩:=Zvc (hval 0 26 v0 rfl rfl) h0 y0
 have z0:a0.nodes≤1048576:=by have h:=hbound;simp only[List.append_nil,Rows.uptoBulkAll]at h;omega
 refine (Ztf chk_w a0 A0 W t0 z0 (Zio hL hsh)).mono fun e W' ⟨he,hb⟩=>?_
 exact ⟨_,he,Zkn laidOut rfl Tryz.underlying4 (by kernel_rfl) (by kernel_rfl) (fun xs hx=>match xs,hx with|[_],_=>rfl) hW' hb⟩
theorem said:Rows.ExprWrappedUptoSaid:=
 OpenClaim.holds_of_cond 8 Tryz.f8 rfl rfl rfl rfl rfl rfl rfl ⟨rfl,rfl,rfl,rfl,rfl⟩ rfl rfl rfl rfl rfl (by kernel_rfl) Tryz.func8 (by kernel_rfl)
  (of_decide_eq_true (by kernel_rfl)) (by unfold Func.isWrapper;rw[if_neg (by decide +kernel)];exact ⟨rfl,rfl⟩)
  (fun os started H enc _ F=>by rw[OpenClaim.pre_eq_preRow];exact lifted os started H enc F)
theorem plain (f:FuncId) (fn:Func) (hf:Tryz.pinned.checked.prog.funcNamed Rows.exprWrappedUptoRow.func=some f) (hfn:Tryz.pinned.checked.prog.funcs[f]?=some fn) :
 true=Tryz.pinned.checked.prog.looks []∧∀ (j:Nat) t,fn.params[j]?=some t→Tryz.pinned.checked.prog.wantsStandIn t=false:=by
 obtain rfl:f=8:=(Option.some.inj ((show Tryz.prog.funcNamed Rows.exprWrappedUptoRow.func=some 8 by kernel_rfl).symm.trans hf)).symm
 obtain rfl:fn=Tryz.f8:=(Option.some.inj (Tryz.func8.symm.trans hfn)).symm
 refine ⟨by kernel_rfl,fun j t ht=>?_⟩
 have hall:(Tryz.f8.params.toList.all fun t=>!Tryz.prog.wantsStandIn t)=true:=by kernel_rfl
 have:=List.all_eq_true.1 hall t (List.mem_of_getElem? (by rw[←ht,Array.getElem?_toList]))
 have h2:Tryz.prog.wantsStandIn t=false:=by simpa using this
 exact h2
theorem proved:Rows.ExprWrappedUptoCardSaid:=
 Claim7.holds_tied_plain_at .later [] _ _ _ _ said (fun _ h=>by cases h) (by kernel_rfl) (fun _ h=>by cases h) exprWrappedUpto_row_tie rfl ⟨rfl,rfl⟩ (by kernel_rfl) rfl plain (by kernel_rfl)
end Go.Proofs.YtnhooehmcggmdaaGreatDoor.exprWrapped
