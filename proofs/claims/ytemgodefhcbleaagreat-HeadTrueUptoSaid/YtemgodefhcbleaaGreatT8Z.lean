/-
  HeadTrue: for every case of bulk at most 1048576 the law returns true, and the arguments read as they did. Conditions: none beyond that bound.
-/
import Derived.Test.YtemgodefhcbleaaGreatT802
set_option maxRecDepth 100000
set_option linter.unusedSimpArgs false
set_option linter.unusedVariables false
namespace Go.Proofs.YtemgodefhcbleaaGreat.headTrue
open Ab Go Go.ChangeShapes Go.WideShapes Go.RowKit Go.ChangeAt
abbrev B8:={n:Int//0<=n/\n<=255}
def tB8:Ty B8:=⟨1,fun n=>[.int .u8 n.1],⟨0,by decide⟩⟩
theorem lst_B8(l:List B8):tB8.lst l=tu8.lst (l.map (·.1)):=by
 have e:rowsOf tB8 l=rowsOf tu8 (l.map (·.1)):=by
  funext i j
  show(tB8.cells (l.getD i tB8.zero)).getD j .undef=(tu8.cells ((l.map (·.1)).getD i tu8.zero)).getD j .undef
  have e2:(l.map (·.1)).getD i tu8.zero=(l.getD i tB8.zero).1:=by
   simp only[gE,List.getElem?_map];cases l[i]? <;>rfl
  rw[e2];rfl
 show V.list 1 l.length (rowsOf tB8 l)=V.list 1 (l.map (·.1)).length (rowsOf tu8 (l.map (·.1)));rw[e,List.length_map]
theorem arg_past{W:World}{H:Type}{enc:TypeId × Value->H}{base:Nat}{v:Value}{d:DataW H}{ps:List MemPlace}(hok:Value.okWide Tryz.prog W .any base 58 v)(h:DataW.Trod enc Tryz.prog W 0 (fun _=>true) true 58 v d ps)(hb:Rows.uptoBulk d<=1048576):
  ∃x:Past,PastOk x/\Rel (GW W) [] (.agg [tu8.lst x.deeds,tu8.lst x.words,tu8.lst x.days,.int .u8 x.many]) v:=by
 have o8:Opens Tryz.prog W (fun vs=>∃n,vs=tB8.cells n) 5:=fun H enc n cs x h _=>by
  obtain⟨m,rfl,-,hw⟩:=DataW.trod_int Tryz.underlying5 h;refine⟨[.int .u8 m],⟨⟨m,by simpa[Lit.wf,IntKind.min,IntKind.max,IntKind.signed,IntKind.bits]using hw⟩,rfl⟩,rfl,fun j hj=> ?_⟩;obtain rfl:j=0:=by simpa using hj
  exact .int .u8 m
 have os:Opens Tryz.prog W (fun vs=>∃l:List B8,vs=[tB8.lst l]) 56:=Opens.slice (E:=tB8) Tryz.underlying56 o8 (by kernel_rfl) (by decide) fun _=>rfl
 have op:Opens Tryz.prog W (fun vs=>∃a b c:List B8,∃n:B8,vs=[tB8.lst a,tB8.lst b,tB8.lst c,.int .u8 n.1]) 58:=
  (Opens.struct Tryz.underlying58 [fun vs=>∃l:List B8,vs=[tB8.lst l],fun vs=>∃l:List B8,vs=[tB8.lst l],fun vs=>∃l:List B8,vs=[tB8.lst l],fun vs=>∃n,vs=tB8.cells n] ⟨os,os,os,o8,trivial⟩ (by kernel_rfl)).mono fun vs h=>by
   obtain⟨_,_,rfl,⟨a,rfl⟩,_,_,rfl,⟨b,rfl⟩,_,_,rfl,⟨c,rfl⟩,_,_,rfl,⟨n,rfl⟩,rfl⟩:=h;exact⟨a,b,c,n,rfl⟩
 obtain⟨vs,⟨a,b,c,n,rfl⟩,hr⟩:=val_struct Tryz.underlying58 hok h op hb
 have hu:∀l:List B8,U8 (l.map (·.1)):=fun l y hy=>by
  obtain⟨n,-,rfl⟩:=List.mem_map.1 hy;exact n.2
 refine⟨⟨a.map (·.1),b.map (·.1),c.map (·.1),n.1⟩,⟨hu a,hu b,hu c,n.2⟩,?_⟩;rw[lst_B8,lst_B8,lst_B8]at hr;exact hr
theorem contract(H:Type)(enc:TypeId × Value->H)(W:World)(base:Nat)(args:Array Value)(ds gs:List (DataW H))(before:List MemPlace)
  (hval:∀(j:Nat) t v,Tryz.f8.params[j]? =some t->args[j]? =some v->Value.okWide Tryz.prog W .any base t v)
  (hW:DataW.Whole enc Tryz.prog Tryz.f8.params.toList Rows.headTrueSpec.vars false W args.toList ds gs before) (hk:Rows.uptoSmall H (ds++gs)=true):
  Calls Tryz.prog 8 args W fun e W'=>∃v,e=.returned v/\Rows.headTrueSpec.post enc Tryz.prog Tryz.f8 false true false false W args v W':=by
 have hW':=hW;obtain⟨p,q,hA0,hV,rfl,hfz,hnd⟩:=hW';have hA:DataW.TrodAll enc Tryz.prog W 0 (fun _=>true) true Tryz.f8.params.toList args.toList ds p:=hA0;rw[Tryz.params8]at hA hval;obtain⟨v0,vs0,d0,ds0,p0,q0,hargs,rfl,rfl,h0,r0⟩:=trodAll_cons hA;obtain⟨v1,vs1,d1,ds1,p1,q1,rfl,rfl,rfl,h1,r1⟩:=trodAll_cons r0;obtain⟨v2,vs2,d2,ds2,p2,q2,rfl,rfl,rfl,h2,r2⟩:=trodAll_cons r1;obtain⟨rfl,rfl,rfl⟩:=trodAll_nil r2
 obtain rfl:args= #[v0,v1,v2]:=by cases args;simp_all
 obtain⟨rfl,rfl⟩:=trodVars_none hV;have hb:Rows.uptoBulkAll ([d0,d1,d2]++ [])<=1048576:=of_decide_eq_true hk;simp only[List.append_nil,Rows.uptoBulkAll]at hb;obtain⟨x0,hx0⟩:=arg_book (hval 0 26 v0 rfl rfl) h0 (by omega);obtain⟨x1,b1,hx1⟩:=arg_past (hval 1 58 v1 rfl rfl) h1 (by omega);obtain⟨x2,b2,hx2⟩:=arg_h2 (hval 2 60 v2 rfl rfl) h2 (by omega);refine bridge hW (c8 x0 x1 x2 b1 b2) rfl (fun j hj=> ?_) rfl rfl (by kernel_rfl) Tryz.underlying4 laidOut (by rw[Tryz.params8];decide+kernel)
 match j,hj with
 |0,_=>exact hx0
 |1,_=>exact hx1
 |2,_=>exact hx2
theorem lifted(os:Os)(started:os.Started)(H:Type)(enc:TypeId × Value->H)(F:Stop.Interp):
  ReturnsInHanded {} Tryz.checked os 8 .any ((Rows.OpenSpec.upto Rows.headTrueSpec).pre6 enc Tryz.prog Tryz.f8 Rows.headTrueUptoRow.domain false) (((Rows.OpenSpec.upto Rows.headTrueSpec).at F).post enc Tryz.prog Tryz.f8 false true false false):=by
 refine returnsInHanded_of_cond (C:=Tryz.checked) (s:=Rows.OpenSpec.upto Rows.headTrueSpec) (k:=Rows.uptoSmall) rfl own started (by kernel_rfl) Tryz.func8
  (OpenSpec.witness (enc:=enc) (C:=Tryz.checked) (s:=Rows.OpenSpec.upto Rows.headTrueSpec) (k:=Rows.uptoSmall) rfl false ⟨#[], #[noBook,.agg #[.slice none 0 0,.slice none 0 0,.slice none 0 0,.int .u8 0],.agg #[.int .u16 0,.int .u16 0]],[]⟩ 8 (by kernel_rfl) (by kernel_rfl) (by kernel_rfl)
   (x:=([noBookD,.agg [.nil,.nil,.nil,.lit (.int .u8 0)],.agg [.lit (.int .u16 0),.lit (.int .u16 0)]],[],[])) (by kernel_rfl) rfl (by kernel_rfl)) ?_
 intro W base args ds gs before hval hW _ hk _;exact contract H enc W base args ds gs before hval hW hk
theorem named:Tryz.pinned.checked.prog.funcNamed Rows.headTrueUptoRow.func=some 8:=by kernel_rfl
theorem facts:joinedFacts Tryz.pinned.checked.prog 8 Tryz.f8 (Rows.OpenSpec.upto Rows.headTrueSpec).bare Rows.headTrueUptoRow=true:=by kernel_rfl
theorem inst:Tryz.f8.isInstance Tryz.pinned.checked.prog Rows.headTrueUptoRow.origin Rows.headTrueUptoRow.targs:=of_decide_eq_true (by kernel_rfl)
theorem wraps:Tryz.f8.isWrapper Tryz.pinned.checked.prog Rows.headTrueUptoRow.wrapper Rows.headTrueUptoRow.mainSum:=by
 unfold Func.isWrapper;first|(rw[if_pos (by decide+kernel)];kernel_rfl)|(rw[if_neg (by decide+kernel)];exact⟨rfl,rfl⟩)
theorem proved:Rows.HeadTrueUptoSaid:=
 OpenClaim.holds_of_cond 8 Tryz.f8 rfl rfl rfl rfl rfl rfl rfl ⟨rfl,rfl,rfl,rfl,rfl⟩ rfl rfl rfl rfl rfl named Tryz.func8 facts inst wraps (fun os started H enc _ F=>lifted os started H enc F)
end Go.Proofs.YtemgodefhcbleaaGreat.headTrue
