/-
  HeadNoMore: for every case of bulk at most 1048576 the law returns true, and the arguments read as they did. Conditions: none beyond that bound.
-/
import Derived.Test.YtemgodefhcbleaaGreatT902
set_option maxRecDepth 100000
set_option linter.unusedSimpArgs false
set_option linter.unusedVariables false
namespace Go.Proofs.YtemgodefhcbleaaGreat.headNoMore
open Ab Go Go.ChangeShapes Go.WideShapes Go.RowKit Go.ChangeAt
theorem contract(H:Type)(enc:TypeId × Value->H)(W:World)(base:Nat)(args:Array Value)(ds gs:List (DataW H))(before:List MemPlace)
  (hval:∀(j:Nat) t v,Tryz.f9.params[j]? =some t->args[j]? =some v->Value.okWide Tryz.prog W .any base t v)
  (hW:DataW.Whole enc Tryz.prog Tryz.f9.params.toList Rows.headNoMoreSpec.vars false W args.toList ds gs before) (hk:Rows.uptoSmall H (ds++gs)=true):
  Calls Tryz.prog 9 args W fun e W'=>∃v,e=.returned v/\Rows.headNoMoreSpec.post enc Tryz.prog Tryz.f9 false true false false W args v W':=by
 have hW':=hW;obtain⟨p,q,hA0,hV,rfl,hfz,hnd⟩:=hW';have hA:DataW.TrodAll enc Tryz.prog W 0 (fun _=>true) true Tryz.f9.params.toList args.toList ds p:=hA0;rw[Tryz.params9]at hA hval;obtain⟨v0,vs0,d0,ds0,p0,q0,hargs,rfl,rfl,h0,r0⟩:=trodAll_cons hA;obtain⟨v1,vs1,d1,ds1,p1,q1,rfl,rfl,rfl,h1,r1⟩:=trodAll_cons r0;obtain⟨v2,vs2,d2,ds2,p2,q2,rfl,rfl,rfl,h2,r2⟩:=trodAll_cons r1;obtain⟨rfl,rfl,rfl⟩:=trodAll_nil r2
 obtain rfl:args= #[v0,v1,v2]:=by cases args;simp_all
 obtain⟨rfl,rfl⟩:=trodVars_none hV;have hb:Rows.uptoBulkAll ([d0,d1,d2]++ [])<=1048576:=of_decide_eq_true hk;simp only[List.append_nil,Rows.uptoBulkAll]at hb;obtain⟨x0,hx0⟩:=arg_book (hval 0 26 v0 rfl rfl) h0 (by omega);obtain⟨x1,hx1⟩:=arg_line (hval 1 66 v1 rfl rfl) h1 (by omega);obtain⟨x2,b2,hx2⟩:=arg_h4 (hval 2 76 v2 rfl rfl) h2 (by omega);refine bridge hW (c9 x0 x1 x2 b2) rfl (fun j hj=> ?_) rfl rfl (by kernel_rfl) Tryz.underlying4 laidOut (by rw[Tryz.params9];decide+kernel)
 match j,hj with
 |0,_=>exact hx0
 |1,_=>exact hx1
 |2,_=>exact hx2
theorem lifted(os:Os)(started:os.Started)(H:Type)(enc:TypeId × Value->H)(F:Stop.Interp):
  ReturnsInHanded {} Tryz.checked os 9 .any ((Rows.OpenSpec.upto Rows.headNoMoreSpec).pre6 enc Tryz.prog Tryz.f9 Rows.headNoMoreUptoRow.domain false) (((Rows.OpenSpec.upto Rows.headNoMoreSpec).at F).post enc Tryz.prog Tryz.f9 false true false false):=by
 refine returnsInHanded_of_cond (C:=Tryz.checked) (s:=Rows.OpenSpec.upto Rows.headNoMoreSpec) (k:=Rows.uptoSmall) rfl own started (by kernel_rfl) Tryz.func9
  (OpenSpec.witness (enc:=enc) (C:=Tryz.checked) (s:=Rows.OpenSpec.upto Rows.headNoMoreSpec) (k:=Rows.uptoSmall) rfl false ⟨#[], #[noBook,.agg #[.int .i64 0,.int .i64 0,.int .i64 0,.int .i64 0,.int .i64 0,.int .i64 0,.int .i64 0],.agg #[.int .u16 0,.int .u16 0,.int .u16 0,.int .u16 0]],[]⟩ 8 (by kernel_rfl) (by kernel_rfl) (by kernel_rfl)
   (x:=([noBookD,.agg [.lit (.int .i64 0),.lit (.int .i64 0),.lit (.int .i64 0),.lit (.int .i64 0),.lit (.int .i64 0),.lit (.int .i64 0),.lit (.int .i64 0)],.agg [.lit (.int .u16 0),.lit (.int .u16 0),.lit (.int .u16 0),.lit (.int .u16 0)]],[],[])) (by kernel_rfl) rfl (by kernel_rfl)) ?_
 intro W base args ds gs before hval hW _ hk _;exact contract H enc W base args ds gs before hval hW hk
theorem named:Tryz.pinned.checked.prog.funcNamed Rows.headNoMoreUptoRow.func=some 9:=by kernel_rfl
theorem facts:joinedFacts Tryz.pinned.checked.prog 9 Tryz.f9 (Rows.OpenSpec.upto Rows.headNoMoreSpec).bare Rows.headNoMoreUptoRow=true:=by kernel_rfl
theorem inst:Tryz.f9.isInstance Tryz.pinned.checked.prog Rows.headNoMoreUptoRow.origin Rows.headNoMoreUptoRow.targs:=of_decide_eq_true (by kernel_rfl)
theorem wraps:Tryz.f9.isWrapper Tryz.pinned.checked.prog Rows.headNoMoreUptoRow.wrapper Rows.headNoMoreUptoRow.mainSum:=by
 unfold Func.isWrapper;first|(rw[if_pos (by decide+kernel)];kernel_rfl)|(rw[if_neg (by decide+kernel)];exact⟨rfl,rfl⟩)
theorem proved:Rows.HeadNoMoreUptoSaid:=
 OpenClaim.holds_of_cond 9 Tryz.f9 rfl rfl rfl rfl rfl rfl rfl ⟨rfl,rfl,rfl,rfl,rfl⟩ rfl rfl rfl rfl rfl named Tryz.func9 facts inst wraps (fun os started H enc _ F=>lifted os started H enc F)
end Go.Proofs.YtemgodefhcbleaaGreat.headNoMore
