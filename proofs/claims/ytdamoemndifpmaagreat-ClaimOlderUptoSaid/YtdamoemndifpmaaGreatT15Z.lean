/-
  ClaimOlder: for every case of bulk at most 1048576 the law returns true, and the arguments read as they did. Conditions: none beyond that bound.
-/
import Derived.Test.YtdamoemndifpmaaGreatB18
import Derived.Test.YtdamoemndifpmaaGreatT15F
set_option maxRecDepth 100000
set_option linter.unusedSimpArgs false
set_option linter.unusedVariables false
namespace Go.Proofs.YtdamoemndifpmaaGreat.claimOlder
open Ab Go Go.ChangeShapes Go.WideShapes Go.RowKit Go.ChangeAt
theorem contract(H:Type)(enc:TypeId × Value->H)(W:World)(base:Nat)(args:Array Value)(ds gs:List (DataW H))(before:List MemPlace)
  (hval:∀(j:Nat) t v,Tryz.f15.params[j]? =some t->args[j]? =some v->Value.okWide Tryz.prog W .any base t v)
  (hW:DataW.Whole enc Tryz.prog Tryz.f15.params.toList Rows.claimOlderSpec.vars false W args.toList ds gs before) (hk:Rows.uptoSmall H (ds++gs)=true):
  Calls Tryz.prog 15 args W fun e W'=>∃v,e=.returned v/\Rows.claimOlderSpec.post enc Tryz.prog Tryz.f15 false true false false W args v W':=by
 have hW':=hW;obtain⟨p,q,hA0,hV,rfl,hfz,hnd⟩:=hW';have hA:DataW.TrodAll enc Tryz.prog W 0 (fun _=>true) true Tryz.f15.params.toList args.toList ds p:=hA0;rw[Tryz.params15]at hA hval;obtain⟨v0,vs0,d0,ds0,p0,q0,hargs,rfl,rfl,h0,r0⟩:=trodAll_cons hA;obtain⟨v1,vs1,d1,ds1,p1,q1,rfl,rfl,rfl,h1,r1⟩:=trodAll_cons r0;obtain⟨rfl,rfl,rfl⟩:=trodAll_nil r1;obtain rfl:args= #[v0,v1]:=by cases args;simp_all
 obtain⟨rfl,rfl⟩:=trodVars_none hV;have hb:Rows.uptoBulkAll ([d0,d1]++ [])<=1048576:=of_decide_eq_true hk;simp only[List.append_nil,Rows.uptoBulkAll]at hb;obtain⟨x0,hx0⟩:=arg_case (hval 0 29 v0 rfl rfl) h0 (by omega);obtain⟨x1,rfl,-,-,w1⟩:=open_int Tryz.underlying5 (hval 1 5 v1 rfl rfl) h1;have b1:0<=x1/\x1<=255:=by simpa[Lit.wf,IntKind.min,IntKind.max,IntKind.signed,IntKind.bits]using w1
 refine bridge hW (c15 x0 x1 b1) rfl (fun j hj=> ?_) rfl rfl (by kernel_rfl) Tryz.underlying4 laidOut (by rw[Tryz.params15];decide+kernel)
 match j,hj with
 |0,_=>exact hx0
 |1,_=>exact .int _ _
theorem lifted(os:Os)(started:os.Started)(H:Type)(enc:TypeId × Value->H)(F:Stop.Interp):
  ReturnsInHanded {} Tryz.checked os 15 .any ((Rows.OpenSpec.upto Rows.claimOlderSpec).pre6 enc Tryz.prog Tryz.f15 Rows.claimOlderUptoRow.domain false) (((Rows.OpenSpec.upto Rows.claimOlderSpec).at F).post enc Tryz.prog Tryz.f15 false true false false):=by
 refine returnsInHanded_of_cond (C:=Tryz.checked) (s:=Rows.OpenSpec.upto Rows.claimOlderSpec) (k:=Rows.uptoSmall) rfl own started (by kernel_rfl) Tryz.func15
  (OpenSpec.witness (enc:=enc) (C:=Tryz.checked) (s:=Rows.OpenSpec.upto Rows.claimOlderSpec) (k:=Rows.uptoSmall) rfl false ⟨#[], #[noCase,.int .u8 0],[]⟩ 8 (by kernel_rfl) (by kernel_rfl) (by kernel_rfl)
   (x:=([noCaseD,.lit (.int .u8 0)],[],[])) (by kernel_rfl) rfl (by kernel_rfl)) ?_
 intro W base args ds gs before hval hW _ hk _;exact contract H enc W base args ds gs before hval hW hk
theorem inst:Tryz.f15.isInstance Tryz.pinned.checked.prog Rows.claimOlderUptoRow.origin Rows.claimOlderUptoRow.targs:=of_decide_eq_true (by kernel_rfl)
theorem wraps:Tryz.f15.isWrapper Tryz.pinned.checked.prog Rows.claimOlderUptoRow.wrapper Rows.claimOlderUptoRow.mainSum:=by
 unfold Func.isWrapper;first|(rw[if_pos (by decide+kernel)];kernel_rfl)|(rw[if_neg (by decide+kernel)];exact⟨rfl,rfl⟩)
theorem proved:Rows.ClaimOlderUptoSaid:=
 OpenClaim.holds_of_cond 15 Tryz.f15 rfl rfl rfl rfl rfl rfl rfl ⟨rfl,rfl,rfl,rfl,rfl⟩ rfl rfl rfl rfl rfl named Tryz.func15 facts inst wraps (fun os started H enc _ F=>lifted os started H enc F)
end Go.Proofs.YtdamoemndifpmaaGreat.claimOlder
