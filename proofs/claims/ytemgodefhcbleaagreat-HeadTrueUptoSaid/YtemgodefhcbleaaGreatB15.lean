/-
  Part of the proof of the Head laws. Conditions: those that stand in each theorem.
-/
import Derived.Test.YtemgodefhcbleaaGreatB14
set_option linter.unusedSimpArgs false
set_option linter.unusedVariables false
set_option maxRecDepth 100000
namespace Go.Proofs.YtemgodefhcbleaaGreat
open Ab Go
noncomputable section
def keptB(b:Book)(s:ByteArray):List Stretch:=(stretchesR b).filter fun x=> !(delS s x)
theorem c84x(b:Book)(h:OkBook b)(hh:List Blk):HCalls Tryz.prog 84 [lk (lookOf b)] (.row hh.length (stretchesR b).length) hh (hh++ [.rows 142 5 (stretchesR b).length (rowsOf tStretch (stretchesR b))]):=by
 have:=(c84h b h).frame rfl rfl hh;rw[show V.sh hh.length (V.row 0 (stretchesR b).length)=V.row hh.length (stretchesR b).length from by rw[V.sh,Nat.zero_add]]at this;exact this
theorem c85x(s:ByteArray)(l:List Stretch)(hl:l.length<=100000)(hh:List Blk)(q:Nat)(hq:hh[q]? =some (.rows 142 5 l.length (rowsOf tStretch l))):HCalls Tryz.prog 85 [.row q l.length,fG 86 [rR (.str s)]] (.row q (l.filter fun x=> !(delS s x)).length) hh (hh.set q (.rows 142 5 l.length (rowsOf tStretch (padD (l.filter fun x=> !(delS s x)) l.length)))):=
 (c85 s l hl).atRowN (fun j=>match j with
  |0=>.inr (.inl ⟨_,rfl⟩)
  |1=>.inr (.inr rfl)
  |j+2=>.inr (.inr rfl)) ⟨_,rfl⟩ hq
inductive P34a
 |e
inductive R34a
 |r0 (r0:Int) (r1:Int) (r2:Int) (r3:Bool)
def T34a(n:Nat)(P:List Pair)(H:List (Nat->Int))(K:List Stretch)(hd:Int)(lo:Int)(hi:Int)(f:Bool):P34a->Tr P34a R34a
 |.e=>(.out (.r0 hd lo hi f))
noncomputable def g34a(n:Nat)(P:List Pair)(H:List (Nat->Int))(K:List Stretch)(hd:Int)(lo:Int)(hi:Int)(f:Bool):P34a->List Item × St
 |.e=>([.code (asgOf (rangeOf Tryz.f34))],⟨[uU,uU,uU,uU,.ref 1 0 0,uU,.ref 3 0 0,uU,uU,rR (tStretch.lst K),.ref 7 0 0,uU,uU,uU,uU,uU,uU,uU,uU,uU,uU,uU,uU,uU,uU,uU,uU,uU,uU,uU,uU,uU,uU,uU,uU,uU,uU,.agg [.list 2 n (rowsOf tPair P),.list 5 (n+1) (rowsOf tHave H)],uU,uU,uU,uU,uU,uU,uU,uU,uU,uU,uU,uU,uU,uU,uU,uU,uU,uU,uU,uU,uU,uU,uU,uU,uU,uU,uU,uU,uU,uU,uU,uU,uU,uU,uU,uU,uU,uU,uU],[.gone,.cells [iI hd],.gone,.cells [iI lo,iI hi],.gone,.gone,.gone,.cells [.bool f]],[]⟩)
def n34a(n:Nat)(P:List Pair)(H:List (Nat->Int))(K:List Stretch)(hd:Int)(lo:Int)(hi:Int)(f:Bool):R34a->Exit × St
 |.r0 r0 r1 r2 r3=>(.normal,⟨mk 77 [(4,.ref 1 0 0),(6,.ref 3 0 0),(9,rR (tStretch.lst K)),(10,.ref 7 0 0),(11,.ref 8 0 0)],[.gone,.cells [iI r0],.gone,.cells [iI r1,iI r2],.gone,.gone,.gone,.cells [.bool r3],.cells [.list 2 n (rowsOf tPair P),.list 5 (n+1) (rowsOf tHave H)]],[]⟩)
theorem s34a(n:Nat)(P:List Pair)(H:List (Nat->Int))(K:List Stretch)(hd:Int)(lo:Int)(hi:Int)(f:Bool):Sm 8 (g34a n P H K hd lo hi f) (T34a n P H K hd lo hi f) (n34a n P H K hd lo hi f)
 |.e=>⟨400,by kernel_rfl⟩
inductive P34b
 |e
 |l0 (x0_40:Int) (c0_3_0:Int) (c0_3_1:Int) (c0_7_0:Bool)
inductive R34b
 |r0 (r0:Int) (r1:Int) (r2:Int) (r3:Bool)
def T34b(n:Nat)(P:List Pair)(H:List (Nat->Int))(K:List Stretch)(hd:Int)(lo:Int)(hi:Int)(f:Bool):P34b->Tr P34b R34b
 |.e=>(.go (.l0 0 lo hi f))
 |.l0 x0_40 c0_3_0 c0_3_1 c0_7_0=>let c1:=K.getD (x0_40).toNat tStretch.zero;let c3:Tr P34b R34b:=.need (inR .i64 (x0_40+(1:Int))) (.go (.l0 (x0_40+(1:Int)) c0_3_0 c0_3_1 c0_7_0));let c5:=decide (0<=c1.line)&&decide (c1.line<((n+1):Int));let c6:=H.getD (c1.line).toNat tHave.zero;let c7:=true&&(true&&true);let c8:=c1.span.lo;let c9:=c1.span.hi;let c2:Tr P34b R34b:=.br (!c0_7_0) (.need (inR .i64 (x0_40+(1:Int))) (.go (.l0 (x0_40+(1:Int)) (min c8 c8) (max c9 c9) true))) (.need (inR .i64 (x0_40+(1:Int))) (.go (.l0 (x0_40+(1:Int)) (min c0_3_0 c8) (max c0_3_1 c9) c0_7_0)));let c4:List V:=[iI (c1.line),iI (c1.body),.str (c1.as_),iI c8,iI c9];let c10:=x0_40<(K.length:Int);(.br (decide c10) (.need (decide (0<=x0_40)&&decide c10) (.wait 2 (.cas (decide (c1.body=0)) (.telc 9 c4 [iI (c1.line),iI 0,.str (c1.as_),iI c8,iI c9] (.front [] [] ((true&&(true&&(true&&(true&&(true&&(true&&(c5&&(((decide (0<=(0:Int))&&decide ((0:Int)<(5:Int)))&&true)&&c7))))))))&&true) true (.br ((c6 0) !=hd) c3 c2))) (.cas (decide (c1.body=1)) (.telc 9 c4 [iI (c1.line),iI 1,.str (c1.as_),iI c8,iI c9] (.front [] [] ((true&&(true&&(true&&(true&&(true&&(true&&(c5&&(((decide (0<=(1:Int))&&decide ((1:Int)<(5:Int)))&&true)&&c7))))))))&&true) true (.br ((c6 1) !=hd) c3 c2))) (.cas (decide (c1.body=2)) (.telc 9 c4 [iI (c1.line),iI 2,.str (c1.as_),iI c8,iI c9] (.front [] [] ((true&&(true&&(true&&(true&&(true&&(true&&(c5&&(((decide (0<=(2:Int))&&decide ((2:Int)<(5:Int)))&&true)&&c7))))))))&&true) true (.br ((c6 2) !=hd) c3 c2))) (.cas (decide (c1.body=3)) (.telc 9 c4 [iI (c1.line),iI 3,.str (c1.as_),iI c8,iI c9] (.front [] [] ((true&&(true&&(true&&(true&&(true&&(true&&(c5&&(((decide (0<=(3:Int))&&decide ((3:Int)<(5:Int)))&&true)&&c7))))))))&&true) true (.br ((c6 3) !=hd) c3 c2))) (.cas (decide (c1.body=4)) (.telc 9 c4 [iI (c1.line),iI 4,.str (c1.as_),iI c8,iI c9] (.front [] [] ((true&&(true&&(true&&(true&&(true&&(true&&(c5&&(((decide (0<=(4:Int))&&decide ((4:Int)<(5:Int)))&&true)&&c7))))))))&&true) true (.br ((c6 4) !=hd) c3 c2))) .never))))))) (.out (.r0 hd c0_3_0 c0_3_1 c0_7_0)))
noncomputable def g34b(n:Nat)(P:List Pair)(H:List (Nat->Int))(K:List Stretch)(hd:Int)(lo:Int)(hi:Int)(f:Bool):P34b->List Item × St
 |.e=>([.code (bdyOf (rangeOf Tryz.f34))],⟨[uU,uU,uU,uU,.ref 1 0 0,uU,.ref 3 0 0,uU,uU,rR (tStretch.lst K),.ref 7 0 0,.ref 8 0 0,uU,uU,uU,uU,uU,uU,uU,uU,uU,uU,uU,uU,uU,uU,uU,uU,uU,uU,uU,uU,uU,uU,uU,uU,uU,uU,uU,uU,uU,uU,uU,uU,uU,uU,uU,uU,uU,uU,uU,uU,uU,uU,uU,uU,uU,uU,uU,uU,uU,uU,uU,uU,uU,uU,uU,uU,uU,uU,uU,uU,uU,uU,uU,uU,uU],[.gone,.cells [iI hd],.gone,.cells [iI lo,iI hi],.gone,.gone,.gone,.cells [.bool f],.cells [.list 2 n (rowsOf tPair P),.list 5 (n+1) (rowsOf tHave H)]],[]⟩)
 |.l0 x0_40 c0_3_0 c0_3_1 c0_7_0=>((cuts [] (bdyOf (rangeOf Tryz.f34))).getD 0 [],⟨mk 77 [(4,.ref 1 0 0),(6,.ref 3 0 0),(10,.ref 7 0 0),(11,.ref 8 0 0),(38,tStretch.lst K),(39,iI (K.length:Int)),(40,iI x0_40)],[.gone,.cells [iI hd],.gone,.cells [iI c0_3_0,iI c0_3_1],.gone,.gone,.gone,.cells [.bool c0_7_0],.cells [.list 2 n (rowsOf tPair P),.list 5 (n+1) (rowsOf tHave H)]],[]⟩)
def n34b(n:Nat)(P:List Pair)(H:List (Nat->Int))(K:List Stretch)(hd:Int)(lo:Int)(hi:Int)(f:Bool):R34b->Exit × St
 |.r0 r0 r1 r2 r3=>(.normal,⟨mk 77 [],[.gone,.cells [iI r0],.gone,.cells [iI r1,iI r2],.gone,.gone,.gone,.cells [.bool r3]],[]⟩)
theorem s34b(n:Nat)(P:List Pair)(H:List (Nat->Int))(K:List Stretch)(hd:Int)(lo:Int)(hi:Int)(f:Bool):Sm 8 (g34b n P H K hd lo hi f) (T34b n P H K hd lo hi f) (n34b n P H K hd lo hi f)
 |.e=>⟨400,by kernel_rfl⟩
 |.l0 _ _ _ _=>⟨400,by kernel_rfl⟩
abbrev BS:=Int × Int × Bool
def hitX(hd:Int)(H:List (Nat->Int))(x:Stretch):Bool:=(H.getD x.line.toNat tHave.zero) x.body.toNat==hd
def stepX(hd:Int)(H:List (Nat->Int))(s:BS)(x:Stretch):BS:=if hitX hd H x=true then(if s.2.2=true then(min s.1 x.span.lo,max s.2.1 x.span.hi,true)else(x.span.lo,x.span.hi,true))else s
def runX(hd:Int)(H:List (Nat->Int))(K:List Stretch)(s:BS):BS:=K.foldl (stepX hd H) s
theorem runX_step(hd:Int)(H:List (Nat->Int))(K:List Stretch)(s:BS)(i:Nat)(hi:i<K.length):runX hd H (K.take (i+1)) s=stepX hd H (runX hd H (K.take i) s) (K.getD i zStretch):=by
 unfold runX;rw[take_snoc zStretch K i hi,List.foldl_append];rfl
abbrev H34(hd:Int)(s:BS):List Blk:=[.gone,.cells [iI hd],.gone,.cells [iI s.1,iI s.2.1],.gone,.gone,.gone,.cells [.bool s.2.2]]
theorem body34(l:Nat)(n:Nat)(P:List Pair)(H:List (Nat->Int))(K:List Stretch)(hd:Int)(s:BS)(hK:K.length<=100000)(hin:∀x∈K,0<=x.line/\x.line<=n/\0<=x.body/\x.body<5):
  AWP Tryz.prog ⟨some l,8⟩ (bdyOf (rangeOf Tryz.f34)) (g34b n P H K hd s.1 s.2.1 s.2.2 .e).2 fun e S2=>e=.normal/\S2.h=H34 hd (runX hd H K s):=by
 refine AWP.wp mx (T34b n P H K hd s.1 s.2.1 s.2.2) (g34b n P H K hd s.1 s.2.1 s.2.2) (n34b n P H K hd s.1 s.2.1 s.2.2) .e rfl (s34b n P H K hd s.1 s.2.1 s.2.2) (post:=fun r=>(n34b n P H K hd s.1 s.2.1 s.2.2 r).1=.normal/\(n34b n P H K hd s.1 s.2.1 s.2.2 r).2.h=H34 hd (runX hd H K s)) ?_ (fun r hr=>hr);have hz:tStretch.zero=zStretch:=rfl
 have hmain:WP Tryz.prog ⟨some l,8⟩ (T34b n P H K hd s.1 s.2.1 s.2.2) (Ends' fun r=>(n34b n P H K hd s.1 s.2.1 s.2.2 r).1=.normal/\(n34b n P H K hd s.1 s.2.1 s.2.2 r).2.h=H34 hd (runX hd H K s)) (.l0 0 s.1 s.2.1 s.2.2):=by
  refine WP.run (fun i=>.l0 (i:Int) (runX hd H (K.take i) s).1 (runX hd H (K.take i) s).2.1 (runX hd H (K.take i) s).2.2) rfl K.length (fun i hi=> ?_) ?_
  ·have hr:inR .i64 ((i:Int)+1)=true:=inR64 (by omega) (by omega);have hi':(i:Int)<K.length:=by omega
   obtain⟨q1,q2,q3,q4⟩:=hin _ (getD_mem zStretch K i hi);rw[runX_step hd H K s i hi];generalize hS:runX hd H (K.take i) s=S
   generalize hX:K.getD i zStretch=X at*
   obtain⟨sl,sh,sf⟩:=S;obtain⟨xl,xb,xs,⟨xlo,xhi⟩⟩:=X;simp only at q1 q2 q3 q4;have hl1:xl<(n:Int)+1:=by omega
   unfold stepX hitX;simp only;clear hS hin
   rcases show xb=0\/xb=1\/xb=2\/xb=3\/xb=4 by omega with rfl|rfl|rfl|rfl|rfl
   all_goals
    simp only[Int.toNat_zero,Int.toNat_one,Int.reduceToNat]
   ·rcases Bool.eq_false_or_eq_true ((H.getD xl.toNat tHave.zero) 0==hd)with hh|hh<;>cases sf
    all_goals
     simp only[hh,Bool.false_eq_true,↓reduceIte];have hh2:((H.getD xl.toNat tHave.zero) 0 !=hd)= !((H.getD xl.toNat tHave.zero) 0==hd):=rfl;rw[hh]at hh2;refine WP.once ?_;simp only[T34b,Tr.sure,SS,hi',hz,hX,hh,hh2,q1,hl1,Int.toNat_natCast,Int.reduceEq];repeat' with_reducible first|intro _|apply aI
     all_goals first|exact(VLe.refl _)|(simp[hr,Go,Ends',-List.getD_eq_getElem?_getD, *];done)
   ·rcases Bool.eq_false_or_eq_true ((H.getD xl.toNat tHave.zero) 1==hd)with hh|hh<;>cases sf
    all_goals
     simp only[hh,Bool.false_eq_true,↓reduceIte];have hh2:((H.getD xl.toNat tHave.zero) 1 !=hd)= !((H.getD xl.toNat tHave.zero) 1==hd):=rfl;rw[hh]at hh2;refine WP.once ?_;simp only[T34b,Tr.sure,SS,hi',hz,hX,hh,hh2,q1,hl1,Int.toNat_natCast,Int.reduceEq];repeat' with_reducible first|intro _|apply aI
     all_goals first|exact(VLe.refl _)|(simp[hr,Go,Ends',-List.getD_eq_getElem?_getD, *];done)
   ·rcases Bool.eq_false_or_eq_true ((H.getD xl.toNat tHave.zero) 2==hd)with hh|hh<;>cases sf
    all_goals
     simp only[hh,Bool.false_eq_true,↓reduceIte];have hh2:((H.getD xl.toNat tHave.zero) 2 !=hd)= !((H.getD xl.toNat tHave.zero) 2==hd):=rfl;rw[hh]at hh2;refine WP.once ?_;simp only[T34b,Tr.sure,SS,hi',hz,hX,hh,hh2,q1,hl1,Int.toNat_natCast,Int.reduceEq];repeat' with_reducible first|intro _|apply aI
     all_goals first|exact(VLe.refl _)|(simp[hr,Go,Ends',-List.getD_eq_getElem?_getD, *];done)
   ·rcases Bool.eq_false_or_eq_true ((H.getD xl.toNat tHave.zero) 3==hd)with hh|hh<;>cases sf
    all_goals
     simp only[hh,Bool.false_eq_true,↓reduceIte];have hh2:((H.getD xl.toNat tHave.zero) 3 !=hd)= !((H.getD xl.toNat tHave.zero) 3==hd):=rfl;rw[hh]at hh2;refine WP.once ?_;simp only[T34b,Tr.sure,SS,hi',hz,hX,hh,hh2,q1,hl1,Int.toNat_natCast,Int.reduceEq];repeat' with_reducible first|intro _|apply aI
     all_goals first|exact(VLe.refl _)|(simp[hr,Go,Ends',-List.getD_eq_getElem?_getD, *];done)
   ·rcases Bool.eq_false_or_eq_true ((H.getD xl.toNat tHave.zero) 4==hd)with hh|hh<;>cases sf
    all_goals
     simp only[hh,Bool.false_eq_true,↓reduceIte];have hh2:((H.getD xl.toNat tHave.zero) 4 !=hd)= !((H.getD xl.toNat tHave.zero) 4==hd):=rfl;rw[hh]at hh2;refine WP.once ?_;simp only[T34b,Tr.sure,SS,hi',hz,hX,hh,hh2,q1,hl1,Int.toNat_natCast,Int.reduceEq];repeat' with_reducible first|intro _|apply aI
     all_goals first|exact(VLe.refl _)|(simp[hr,Go,Ends',-List.getD_eq_getElem?_getD, *];done)
  ·rw[List.take_length];refine WP.step ?_;simp only[T34b,Go,Ends',Tr.sure,SS,Int.lt_irrefl];repeat' with_reducible first|intro _|apply aI
   all_goals exact rfl
 refine WP.step ?_;simp only[T34b,Go,Ends',Tr.sure,SS];repeat' with_reducible first|intro _|apply aI
 all_goals exact hmain
def manyX(hd:Int)(K:List Stretch)(l:List Truth):BS:=l.foldl (fun s t=>runX hd (t.haves.map fnH) K s) (0,0,false)
abbrev t34(b:Book)(K:List Stretch):List V:=[uU,uU,uU,uU,.ref 1 0 0,uU,.ref 3 0 0,uU,uU,rR (tStretch.lst K),.ref 7 0 0]++List.replicate 25 uU++ [trF b 0]++List.replicate 40 uU
theorem manyX_step{hd:Int}{K:List Stretch}{l:List Truth}{k:Nat}{t:Truth}(h:l[k]? =some t):manyX hd K (l.take (k+1))=runX hd (t.haves.map fnH) K (manyX hd K (l.take k)):=by
 unfold manyX;rw[take_get h,List.foldl_append];rfl
theorem range34(b:Book)(h:OkBook b)(hd:Int)(K:List Stretch)(hK:K.length<=100000)(hin:∀x∈K,0<=x.line/\x.line<=b.lines.length/\0<=x.body/\x.body<5):
  AWP Tryz.prog ⟨none,0⟩ (rangeOf Tryz.f34) ⟨t34 b K,[.cells (tBook.cells b),.cells [iI hd],.gone,.cells [iI 0,iI 0],.gone,.gone,.gone,.cells [.bool false]],[]⟩ (fun e T=>e=.normal/\T=⟨t34 b K,[.cells (tBook.cells b),.cells [iI hd],.gone,.cells [iI (manyX hd K (truthsR b [])).1,iI (manyX hd K (truthsR b [])).2.1],.gone,.gone,.gone,.cells [.bool (manyX hd K (truthsR b [])).2.2],.obj (.deferred (some []))],[8]⟩):=by
 have e:rangeOf Tryz.f34=.rangeFunc (.tmp 36) #[37] (asgOf (rangeOf Tryz.f34)) (bdyOf (rangeOf Tryz.f34)):=by kernel_rfl
 have hlen:(ysB b 0).length=(truthsR b []).length:=by unfold ysB;rw[List.length_map,butL_zero]
 have hfull:(truthsR b []).take (ysB b 0).length=truthsR b []:=by rw[hlen,List.take_length]
 rw[e]
 refine(AWP.rangeVT (fs:=[true]) (T:=t34 b K) (H:=fun k=>H34 hd (manyX hd K ((truthsR b []).take k))) (f:=110) (ys:=ysB b 0) (caps:=[rR (lk (lookOf b)),rR (iI 0)])
  rfl rfl (fun i hi hv=> ?_) rfl (fun j=>.inl rfl) rfl rfl (PCalls.enters Tryz.func110 (c:=Tryz.f110.body.getD .skip) (by kernel_rfl) (by kernel_rfl)) (c110 b h 0) rfl (fun _=>rfl) (fun _=>rfl) (fun l k us hu=> ?_) (fun q i k hk=>freeAll (fun b hb=> ?_) i k hk)).mono fun e T q=>⟨q.1,by rw[q.2,hfull];rfl⟩
 ·match i,hi,hv with
  |0,_,hv=>cases hv
  |i+1,hi,_=>simp at hi
 ·obtain⟨t,ht,rfl⟩:=ysB_get hu;rw[butL_zero]at ht;have hnx:=manyX_step (hd:=hd) (K:=K) ht;rw[hnx];generalize manyX hd K ((truthsR b []).take k)=s at*
  refine⟨rfl,?_⟩;refine AWP.forget (t:=(setPs [37] [.agg [.list 2 b.lines.length (rowsOf tPair t.pairs),.list 5 (b.lines.length+1) (rowsOf tHave (t.haves.map fnH))]] (t34 b K)).set 36 uU) (by simp) (forget_set _ 36) ?_
  refine AWP.wp mx (T34a b.lines.length t.pairs (t.haves.map fnH) K hd s.1 s.2.1 s.2.2) (g34a b.lines.length t.pairs (t.haves.map fnH) K hd s.1 s.2.1 s.2.2) (n34a b.lines.length t.pairs (t.haves.map fnH) K hd s.1 s.2.1 s.2.2) .e rfl (s34a b.lines.length t.pairs (t.haves.map fnH) K hd s.1 s.2.1 s.2.2)
   (post:=fun r=>(n34a b.lines.length t.pairs (t.haves.map fnH) K hd s.1 s.2.1 s.2.2 r).1=.normal/\(n34a b.lines.length t.pairs (t.haves.map fnH) K hd s.1 s.2.1 s.2.2 r).2=(g34b b.lines.length t.pairs (t.haves.map fnH) K hd s.1 s.2.1 s.2.2 .e).2) ?_ (fun r hr=> ?_)
  ·refine WP.step ?_;simp only[T34a,Go,Ends',Tr.sure,SS];repeat' with_reducible first|intro _|apply aI
   all_goals exact rfl
  ·rw[hr.2];exact⟨hr.1,rfl,body34 l b.lines.length t.pairs (t.haves.map fnH) K hd s hK hin⟩
 ·simp only[List.mem_cons,List.not_mem_nil,or_false]at hb;rcases hb with rfl|rfl|rfl|rfl|rfl|rfl|rfl|rfl
  all_goals trivial
inductive P34y
 |e
inductive R34y
 |r0 (r0_0:Int) (r0_1:Int) (r1:Int)
 |r1 (r0_0:Int) (r0_1:Int) (r1:Int)
def T34y(b:Book)(head:Int)(as_:ByteArray):P34y->Tr P34y R34y
 |.e=>let c3:=stretchesR b;let c5:List Blk:=[.cells (cC b),.cells [iI head],.gone,.cells [iI 0,iI 0],.gone,.rows 142 5 (c3.length) (rowsOf tStretch c3)];let c6:=keptB b as_;let c1:List V:=[uU,uU,uU,uU,.ref 1 0 0,uU,.ref 3 0 0,uU,uU,rR (tStretch.lst c6),.ref 7 0 0,uU,uU,uU,uU,uU,uU,uU,uU,uU,uU,uU,uU,uU,uU,uU,uU,uU,uU,uU,uU,uU,uU,uU,uU,uU,fG 110 [rR (lk (lookOf b)),rR (iI 0)],uU,uU,uU,uU,uU,uU,uU,uU,uU,uU,uU,uU,uU,uU,uU,uU,uU,uU,uU,uU,uU,uU,uU,uU,uU,uU,uU,uU,uU,uU,uU,uU,uU,uU,uU,uU,uU,uU,uU,uU];let c2:=manyX head c6 (truthsR b []);let c4:=rowsOf tStretch (padD c6 c3.length);let c7:=(decide (c6.length<=c3.length))&&true;(.wait 4 (.frz 4 ((decide (1<=1))&&true) (.wait 0 (.vle 17 (.list 1 1 (litC 1 1 [iI head])) (tint.lst ([head]:List Int)) (.call 74 [.agg (cC b),iI 0,tint.lst ([head]:List Int)] (.tuple [lk (lookOf b),iI 0]) true true (.br ((0:Int) !=(0:Int)) (.out (.r0 0 0 0)) (.call 59 [.str as_] (.bool (nameOk as_)) true true (.br (!(nameOk as_)) (.out (.r0 0 0 6)) (.wait 3 (.frz 2 (underL 0 [.str as_]) (.hcall 84 [lk (lookOf b)] (.row 5 (c3.length)) [.cells (cC b),.cells [iI head],.gone,.cells [iI 0,iI 0],.gone] c5 true (.hcall 85 [.row 5 (c3.length),fG 86 [rR (.str as_)]] (.row 5 (c6.length)) c5 [.cells (cC b),.cells [iI head],.gone,.cells [iI 0,iI 0],.gone,.rows 142 5 (c3.length) c4] true (.wait 1 (.frz 5 (((decide (c3.length<=c3.length))&&c7)&&(c7&&true)) (.vle 32 (.list 5 (c3.length) c4) (tStretch.lst (padD c6 c3.length)) (.vle 34 (.list 5 (c6.length) c4) (tStretch.lst c6) (.telc 6 [.list 5 (c6.length) c4] [tStretch.lst c6] (.wait 3 (.frz 6 (underL 0 [tStretch.lst c6]) (.call 75 [lk (lookOf b),iI 0] (fG 110 [rR (lk (lookOf b)),rR (iI 0)]) true true (.wait 1 (.drop ⟨[uU,uU,uU,uU,.nil,uU,.nil,uU,uU,.nil,.nil,uU,uU,uU,uU,uU,uU,uU,uU,uU,uU,uU,uU,uU,uU,uU,uU,uU,uU,uU,uU,uU,uU,uU,uU,uU,.nil,uU,uU,uU,uU,uU,uU,uU,uU,uU,uU,uU,uU,uU,uU,uU,uU,uU,uU,uU,uU,uU,uU,uU,uU,uU,uU,uU,uU,uU,uU,uU,uU,uU,uU,uU,uU,uU,uU,uU,uU],[.void,.void,.void,.void,.void,.void,.void,.void],[]⟩ (.over (rangeOf Tryz.f34) ⟨c1,[.cells (cC b),.cells [iI head],.gone,.cells [iI 0,iI 0],.gone,.gone,.gone,.cells [.bool false]],[]⟩ .normal ⟨c1,[.cells (cC b),.cells [iI head],.gone,.cells [iI (c2.1),iI (c2.2.1)],.gone,.gone,.gone,.cells [.bool (c2.2.2)],.obj (.deferred (some []))],[8]⟩ true (.br (!(c2.2.2)) (.out (.r1 0 0 4)) (.out (.r1 (c2.1) (c2.2.1) 0))))))))))))))))))))))))))
noncomputable def g34y(b:Book)(head:Int)(as_:ByteArray):P34y->List Item × St
 |.e=>bd Tryz.f34 [.agg (cC b),iI head,.str as_] 74
def n34y(b:Book)(head:Int)(as_:ByteArray):R34y->Exit × St
 |.r0 r0_0 r0_1 r1=>(.ret,⟨mk 77 [(6,.ref 3 0 0),(7,iI r1)],[.gone,.gone,.gone,.cells [iI r0_0,iI r0_1]],[]⟩)
 |.r1 r0_0 r0_1 r1=>(.ret,⟨mk 77 [(6,.ref 3 0 0),(7,iI r1)],[.gone,.gone,.gone,.cells [iI r0_0,iI r0_1],.gone,.gone,.gone,.gone,.obj (.deferred (some []))],[8]⟩)
def v34y(b:Book)(head:Int)(as_:ByteArray):R34y->V
 |.r0 r0_0 r0_1 r1=>.tuple [.agg [iI r0_0,iI r0_1],iI r1]
 |.r1 r0_0 r0_1 r1=>.tuple [.agg [iI r0_0,iI r0_1],iI r1]
theorem s34y(b:Book)(head:Int)(as_:ByteArray):Sm 0 (g34y b head as_) (T34y b head as_) (n34y b head as_)
 |.e=>⟨400,by kernel_rfl⟩
theorem q34y(b:Book)(head:Int)(as_:ByteArray):∀r,bodyQ Tryz.prog Tryz.f34 (·=v34y b head as_ r) (n34y b head as_ r).1 (n34y b head as_ r).2
 |.r0 r0_0 r0_1 r1=>bq (.tuple [.agg [iI r0_0,iI r0_1],iI r1]) (by kernel_rfl)
 |.r1 r0_0 r0_1 r1=>⟨.inr rfl,by simp[n34y],(.tuple [.agg [iI r0_0,iI r0_1],iI r1]),(.tuple [.agg [iI r0_0,iI r0_1],iI r1]),by kernel_rfl,(.imm rfl),rfl⟩
theorem w34y(b:Book)(head:Int)(as_:ByteArray){post:V->Prop}(h:WP Tryz.prog ⟨none,0⟩ (T34y b head as_) (Ends' fun r=>post (v34y b head as_ r)) .e):PC 34 [.agg (cC b),iI head,.str as_] post:=
 PCalls.wq Tryz.func34 (s34y b head as_) (q34y b head as_) h
inductive P34n
 |e
inductive R34n
 |r0 (r0_0:Int) (r0_1:Int) (r1:Int)
def T34n(b:Book)(head:Int)(as_:ByteArray):P34n->Tr P34n R34n
 |.e=>let c1:=toldR b [head] 0;(.call 74 [.agg (cC b),iI 0,.list 1 1 (litC 1 1 [iI head])] (.tuple [.nil,iI (c1.2)]) ((decide (1<=1))&&true) true (.br (c1.2 !=(0:Int)) (.out (.r0 0 0 (c1.2))) (.wait 1 .never)))
noncomputable def g34n(b:Book)(head:Int)(as_:ByteArray):P34n->List Item × St
 |.e=>bd Tryz.f34 [.agg (cC b),iI head,.str as_] 74
def n34n(b:Book)(head:Int)(as_:ByteArray):R34n->Exit × St
 |.r0 r0_0 r0_1 r1=>(.ret,⟨mk 77 [(6,.ref 3 0 0),(7,iI r1)],[.gone,.gone,.gone,.cells [iI r0_0,iI r0_1]],[]⟩)
def v34n(b:Book)(head:Int)(as_:ByteArray):R34n->V
 |.r0 r0_0 r0_1 r1=>.tuple [.agg [iI r0_0,iI r0_1],iI r1]
theorem s34n(b:Book)(head:Int)(as_:ByteArray):Sm 0 (g34n b head as_) (T34n b head as_) (n34n b head as_)
 |.e=>⟨400,by kernel_rfl⟩
theorem q34n(b:Book)(head:Int)(as_:ByteArray):∀r,bodyQ Tryz.prog Tryz.f34 (·=v34n b head as_ r) (n34n b head as_ r).1 (n34n b head as_ r).2
 |.r0 r0_0 r0_1 r1=>bq (.tuple [.agg [iI r0_0,iI r0_1],iI r1]) (by kernel_rfl)
theorem w34n(b:Book)(head:Int)(as_:ByteArray){post:V->Prop}(h:WP Tryz.prog ⟨none,0⟩ (T34n b head as_) (Ends' fun r=>post (v34n b head as_ r)) .e):PC 34 [.agg (cC b),iI head,.str as_] post:=
 PCalls.wq Tryz.func34 (s34n b head as_) (q34n b head as_) h
end
noncomputable section
theorem natF_same{σ:Type}{f g:Nat->σ->σ}{s:σ}:∀n,(∀i,i<n->∀z,f i z=g i z)->natF f s n=natF g s n
 |0,_=>rfl
 |n+1,h=>by
  show f n (natF f s n)=g n (natF g s n);rw[natF_same n (fun i hi=>h i (by omega)),h n (by omega)]
theorem hasN_iff{l:List Int}{n:Int}:hasN l n=true↔n∈l:=by
 unfold hasN;rw[List.any_eq_true];exact⟨fun⟨x,hx,e⟩=>by rw[beq_iff_eq]at e;exact e▸hx,fun h=>⟨n,h,by simp⟩⟩
theorem line_same{b:Book}{d:Int}(h:(d+1)∉marksR b):lineN b (d+1)=lineN b d:=by
 unfold lineN;refine natF_same _ fun i hi z=> ?_
 have hne:(b.lines.getD i zLine).day≠d+1:=fun e=>h (by
  unfold marksR
  refine List.mem_append_left _ (List.mem_cons_of_mem _ (List.mem_map.2 ⟨_,getD_mem zLine _ i hi,e⟩)))
 by_cases q:(b.lines.getD i zLine).day<=d
 ·rw[if_pos q,if_pos (by omega)]
 ·rw[if_neg q,if_neg (by omega)]
theorem named_same{b:Book}{d:Int}(h:(d+1)∉marksR b){k:Nat}(hk:k<b.bodies.length):namedR (b.bodies.getD k zBody) (d+1)=namedR (b.bodies.getD k zBody) d:=by
 unfold namedR;refine natF_same _ fun i hi z=> ?_
 have hne:((b.bodies.getD k zBody).shown.getD i zShown).day≠d+1:=fun e=>h (by
  unfold marksR
  exact List.mem_append_right _ (List.mem_flatMap.2 ⟨_,getD_mem zBody _ k hk,List.mem_map.2 ⟨_,getD_mem zShown _ i hi,e⟩⟩))
 by_cases q:((b.bodies.getD k zBody).shown.getD i zShown).day<=d
 ·rw[if_pos q,if_pos (by omega)]
 ·rw[if_neg q,if_neg (by omega)]
theorem seen_same{b:Book}(h:OkBook b){t:Truth}(ht:t∈truthsR b []){head:Int}(hh:0<=head/\head<b.bodies.length){d:Int}(hm:(d+1)∉marksR b):seenR b t head (d+1)=seenR b t head d:=by
 have hln:=lineN_in b d;have hperm:(atR b t d).Perm (firstH b):=have_in h ht (by omega);obtain⟨p1,p2,p3,p4⟩:=perm_get hperm
 have hin:head∈atR b t d:=hperm.mem_iff.2 (by
  unfold firstH
  rw[List.mem_map];exact⟨head.toNat,List.mem_range.2 (by omega),by omega⟩)
 obtain⟨b1,b2,b3⟩:=bodyOf_in hin;have e:atR b t (d+1)=atR b t d:=by unfold atR;rw[line_same hm]
 unfold seenR;rw[e,named_same hm (by omega)]
theorem anyS_same{b:Book}(h:OkBook b){head:Int}(hh:0<=head/\head<b.bodies.length){s:ByteArray}{d:Int}(hm:(d+1)∉marksR b):anyS b (truthsR b []) head s (d+1)=anyS b (truthsR b []) head s d:=by
 unfold anyS;rw[Bool.eq_iff_iff,List.any_eq_true,List.any_eq_true];constructor
 ·rintro⟨t,ht,e⟩;exact⟨t,ht,by rw[<-seen_same h ht hh hm];exact e⟩
 ·rintro⟨t,ht,e⟩;exact⟨t,ht,by rw[seen_same h ht hh hm];exact e⟩
theorem mem_days{b:Book}{d:Int}(h0:0<=d/\d<=364)(h:d∈marksR b\/(d+1)∈marksR b\/d=364):d∈daysR b:=by
 unfold daysR;rw[List.mem_map];refine⟨d.toNat,List.mem_filter.2 ⟨List.mem_range.2 (by omega),?_⟩,by omega⟩;rw[Int.toNat_of_nonneg h0.1];simp only[Bool.or_eq_true,hasN_iff,beq_iff_eq];exact h
theorem span_fold{b:Book}{L:List Truth}{head:Int}{s:ByteArray}:∀(D P:List Int) (z:Span),(P++D).Pairwise (·<·)->(∀d∈P++D,0<=d)->
  ((z.lo<0/\∀d∈P,anyS b L head s d=false)\/(0<=z.lo/\z.lo∈P/\anyS b L head s z.lo=true/\z.hi∈P/\anyS b L head s z.hi=true/\∀d∈P,anyS b L head s d=true->z.lo<=d/\d<=z.hi))->
  ((D.foldl (spanG b L head s) z).lo<0/\∀d∈P++D,anyS b L head s d=false)\/(0<=(D.foldl (spanG b L head s) z).lo/\(D.foldl (spanG b L head s) z).lo∈P++D/\anyS b L head s (D.foldl (spanG b L head s) z).lo=true/\(D.foldl (spanG b L head s) z).hi∈P++D/\anyS b L head s (D.foldl (spanG b L head s) z).hi=true/\∀d∈P++D,anyS b L head s d=true->(D.foldl (spanG b L head s) z).lo<=d/\d<=(D.foldl (spanG b L head s) z).hi)
 |[],P,z,_,_,hi=>by rw[List.append_nil];exact hi
 |x::D,P,z,hp,h0,hi=>by
  have e:P++x::D=(P++ [x])++D:=by simp
  rw[e]at hp h0⊢;have hx0:0<=x:=h0 x (by simp)
  have hlt:∀d∈P,d<x:=fun d hd=>by
   have:=(List.pairwise_append.1 (List.pairwise_append.1 hp).1).2.2;exact this d hd x (by simp)
  rw[List.foldl_cons];refine span_fold D (P++ [x]) _ hp h0 ?_;unfold spanG;by_cases hs:anyS b L head s x=true
  ·rw[if_pos hs];right
   unfold meetS;rcases hi with⟨z1,z2⟩|⟨z1,z2,z3,z4,z5,z6⟩
   ·rw[if_pos z1];refine⟨hx0,by simp,hs,by simp,hs,fun d hd hd2=> ?_⟩;rcases List.mem_append.1 hd with q|q
    ·rw[z2 d q]at hd2;cases hd2
    ·rw[List.mem_singleton.1 q];exact⟨Int.le_refl _,Int.le_refl _⟩
   ·rw[if_neg (by omega)];refine⟨z1,List.mem_append_left _ z2,z3,by simp,hs,fun d hd hd2=> ?_⟩;rcases List.mem_append.1 hd with q|q
    ·have:=z6 d q hd2;have:=hlt d q;simp only;omega
    ·rw[List.mem_singleton.1 q];have:=hlt _ z2;simp only;omega
  ·rw[if_neg hs];have hs':anyS b L head s x=false:=by simpa using hs
   rcases hi with⟨z1,z2⟩|⟨z1,z2,z3,z4,z5,z6⟩
   ·left
    refine⟨z1,fun d hd=> ?_⟩;rcases List.mem_append.1 hd with q|q
    ·exact z2 d q
    ·rw[List.mem_singleton.1 q];exact hs'
   ·right
    refine⟨z1,List.mem_append_left _ z2,z3,List.mem_append_left _ z4,z5,fun d hd hd2=> ?_⟩;rcases List.mem_append.1 hd with q|q
    ·exact z6 d q hd2
    ·rw[List.mem_singleton.1 q,hs']at hd2;cases hd2
def stepY(s:BS)(x:Stretch):BS:=if s.2.2=true then(min s.1 x.span.lo,max s.2.1 x.span.hi,true)else(x.span.lo,x.span.hi,true)
def hitsX(hd:Int)(K:List Stretch)(l:List Truth):List Stretch:=l.flatMap fun t=>K.filter fun x=>hitX hd (t.haves.map fnH) x
theorem runX_filter(hd:Int)(H:List (Nat->Int)):∀(K:List Stretch) (s:BS),runX hd H K s=(K.filter fun x=>hitX hd H x).foldl stepY s
 |[],_=>rfl
 |x::K,s=>by
  unfold runX;rw[List.foldl_cons,List.filter_cons];have ih:=runX_filter hd H K (stepX hd H s x);unfold runX at ih;rw[ih];by_cases h:hitX hd H x=true
  ·rw[if_pos h,List.foldl_cons];congr 1
   unfold stepX stepY;rw[if_pos h]
  ·rw[if_neg h];congr 1
   unfold stepX;rw[if_neg h]
theorem manyX_hits(hd:Int)(K:List Stretch)(l:List Truth):manyX hd K l=(hitsX hd K l).foldl stepY (0,0,false):=by
 have:∀(l:List Truth) (s:BS),l.foldl (fun s t=>runX hd (t.haves.map fnH) K s) s=(hitsX hd K l).foldl stepY s:=by
  intro l
  induction l with
  |nil=>intro s;rfl
  |cons t l ih=>
   intro s;rw[List.foldl_cons,ih,runX_filter];unfold hitsX;rw[List.flatMap_cons,List.foldl_append]
 exact this l _
theorem foldY:∀(Q:List Stretch) (s:BS),s.2.2=true->(Q.foldl stepY s).2.2=true/\((Q.foldl stepY s).1=s.1\/∃x∈Q,(Q.foldl stepY s).1=x.span.lo)/\((Q.foldl stepY s).2.1=s.2.1\/∃x∈Q,(Q.foldl stepY s).2.1=x.span.hi)/\(Q.foldl stepY s).1<=s.1/\s.2.1<=(Q.foldl stepY s).2.1/\∀x∈Q,(Q.foldl stepY s).1<=x.span.lo/\x.span.hi<=(Q.foldl stepY s).2.1
 |[],s,h=>⟨h,.inl rfl,.inl rfl,Int.le_refl _,Int.le_refl _,fun x hx=>absurd hx List.not_mem_nil⟩
 |y::Q,s,h=>by
  rw[List.foldl_cons];have e:stepY s y=(min s.1 y.span.lo,max s.2.1 y.span.hi,true):=by unfold stepY;rw[if_pos h]
  obtain⟨a1,a2,a3,a4,a5,a6⟩:=foldY Q (stepY s y) (by rw[e]);generalize Q.foldl stepY (stepY s y)=r at*
  rw[e]at a2 a3 a4 a5;simp only at a2 a3 a4 a5;refine⟨a1,?_,?_,by omega,by omega,fun x hx=> ?_⟩
  ·rcases a2 with q|⟨x,hx,q⟩
   ·by_cases c:s.1<=y.span.lo
    ·left;omega
    ·right;exact⟨y,by simp,by omega⟩
   ·exact .inr ⟨x,List.mem_cons_of_mem _ hx,q⟩
  ·rcases a3 with q|⟨x,hx,q⟩
   ·by_cases c:y.span.hi<=s.2.1
    ·left;omega
    ·right;exact⟨y,by simp,by omega⟩
   ·exact .inr ⟨x,List.mem_cons_of_mem _ hx,q⟩
  ·rcases List.mem_cons.1 hx with rfl|q
   ·omega
   ·exact a6 x q
theorem hits_span{Q:List Stretch}(h:Q≠ []):(Q.foldl stepY (0,0,false)).2.2=true/\(∃x∈Q,(Q.foldl stepY (0,0,false)).1=x.span.lo)/\(∃x∈Q,(Q.foldl stepY (0,0,false)).2.1=x.span.hi)/\∀x∈Q,(Q.foldl stepY (0,0,false)).1<=x.span.lo/\x.span.hi<=(Q.foldl stepY (0,0,false)).2.1:=by
 cases Q with
 |nil=>exact absurd rfl h
 |cons y Q=>
  rw[List.foldl_cons];have e:stepY (0,0,false) y=(y.span.lo,y.span.hi,true):=rfl;rw[e];obtain⟨a1,a2,a3,a4,a5,a6⟩:=foldY Q (y.span.lo,y.span.hi,true) rfl;generalize Q.foldl stepY (y.span.lo,y.span.hi,true)=r at*
  simp only at a2 a3 a4 a5;refine⟨a1,?_,?_,fun x hx=> ?_⟩
  ·rcases a2 with q|⟨x,hx,q⟩
   ·exact⟨y,by simp,q⟩
   ·exact⟨x,List.mem_cons_of_mem _ hx,q⟩
  ·rcases a3 with q|⟨x,hx,q⟩
   ·exact⟨y,by simp,q⟩
   ·exact⟨x,List.mem_cons_of_mem _ hx,q⟩
  ·rcases List.mem_cons.1 hx with rfl|q
   ·exact⟨a4,a5⟩
   ·exact a6 x q
theorem mem_kept{b:Book}{s:ByteArray}{x:Stretch}:x∈keptB b s↔x∈stretchesR b/\x.as_=s:=by
 unfold keptB;rw[List.mem_filter];unfold delS;simp only[Bool.not_not,beq_iff_eq];exact⟨fun⟨a,c⟩=>⟨a,ba_inj c⟩,fun⟨a,c⟩=>⟨a,by rw[c]⟩⟩
theorem stretch_good{b:Book}{x:Stretch}(hx:x∈stretchesR b):GoodS b 365 x:=(inv_strD b 365).good x hx
theorem hit_iff{b:Book}(h:OkBook b){t:Truth}(ht:t∈truthsR b []){hd:Int}{x:Stretch}(hx:x∈stretchesR b)(hl:0<=x.line/\x.line<=b.lines.length):hitX hd (t.haves.map fnH) x=true↔(t.haves.getD x.line.toNat []).getD x.body.toNat 0=hd:=by
 obtain⟨j,hj,hjb⟩:=(stretch_good hx).body;have hnb:=h.nb;unfold hitX;rw[beq_iff_eq,have_fn h ht (k:=x.line.toNat) (by omega)];obtain⟨p1,p2,p3,p4⟩:=perm_get (have_in h ht (k:=x.line.toNat) (by omega));rw[fnH_get (by omega) (by omega)]
theorem stretch_line{b:Book}{x:Stretch}(hx:x∈stretchesR b):0<=x.line/\x.line<=b.lines.length:=by
 have g:=stretch_good hx;have:=(g.all x.span.lo (Int.le_refl _) g.le).1;rw[<-this];exact lineN_in b _
theorem stretch_hi{b:Book}{x:Stretch}(hx:x∈stretchesR b):x.span.hi<=364:=
 ((inv_strB (inv_strD b 364) b.bodies.length (Nat.le_refl _)).good x hx).hi
theorem anyS_hits{b:Book}(h:OkBook b){hd:Int}(hh:0<=hd/\hd<b.bodies.length){s:ByteArray}(hs:s≠ByteArray.empty){d:Int}(h0:0<=d/\d<=364):anyS b (truthsR b []) hd s d=true↔∃x∈hitsX hd (keptB b s) (truthsR b []),x.span.lo<=d/\d<=x.span.hi:=by
 unfold anyS hitsX;rw[List.any_eq_true];constructor
 ·rintro⟨t,ht,e⟩
  have e':seenR b t hd d=s:=by unfold same at e;rw[beq_iff_eq]at e;exact ba_inj e
  obtain⟨x,hx,h1,h2,h3,h4⟩:=(stretch_seen h ht hh h0 hs).1 e';exact⟨x,List.mem_flatMap.2 ⟨t,ht,List.mem_filter.2 ⟨mem_kept.2 ⟨hx,h1⟩,(hit_iff h ht hx (stretch_line hx)).2 h2⟩⟩,h3,h4⟩
 ·rintro⟨x,hx,h3,h4⟩
  obtain⟨t,ht,hx2⟩:=List.mem_flatMap.1 hx;obtain⟨hx3,hx4⟩:=List.mem_filter.1 hx2;obtain⟨hx5,hx6⟩:=mem_kept.1 hx3;have:=(stretch_seen h ht hh h0 hs).2 ⟨x,hx5,hx6,(hit_iff h ht hx5 (stretch_line hx5)).1 hx4,h3,h4⟩;exact⟨t,ht,by unfold same;rw[this];simp⟩
theorem days_up(b:Book):(daysR b).Pairwise (·<·):=by
 unfold daysR;rw[List.pairwise_map];exact(List.pairwise_lt_range.filter _).imp fun h=>by omega
theorem between_law{b:Book}(h:OkBook b){hd:Int}(hh:0<=hd/\hd<b.bodies.length){s:ByteArray}(hs:s≠ByteArray.empty):
  ((manyX hd (keptB b s) (truthsR b [])).2.2=false/\(spanOf b (truthsR b []) hd s).lo<0)\/
  ((manyX hd (keptB b s) (truthsR b [])).2.2=true/\¬(spanOf b (truthsR b []) hd s).lo<0/\spanOf b (truthsR b []) hd s=⟨(manyX hd (keptB b s) (truthsR b [])).1,(manyX hd (keptB b s) (truthsR b [])).2.1⟩):=by
 have hA:=fun {d:Int} h0=>anyS_hits h hh hs (d:=d) h0;have hf:=span_fold (b:=b) (L:=truthsR b []) (head:=hd) (s:=s) (daysR b) [] ⟨-1,0⟩ (days_up b) (fun d hd=>(days_in hd).1) (.inl ⟨by simp,fun d hd=>absurd hd List.not_mem_nil⟩);rw[List.nil_append]at hf
 change ((spanOf b (truthsR b []) hd s).lo<0/\_)\/(0<=(spanOf b (truthsR b []) hd s).lo/\(spanOf b (truthsR b []) hd s).lo∈daysR b/\anyS b (truthsR b []) hd s (spanOf b (truthsR b []) hd s).lo=true/\(spanOf b (truthsR b []) hd s).hi∈daysR b/\anyS b (truthsR b []) hd s (spanOf b (truthsR b []) hd s).hi=true/\∀d∈daysR b,anyS b (truthsR b []) hd s d=true->(spanOf b (truthsR b []) hd s).lo<=d/\d<=(spanOf b (truthsR b []) hd s).hi)at hf
 have hin:∀x∈hitsX hd (keptB b s) (truthsR b []),0<=x.span.lo/\x.span.lo<=x.span.hi/\x.span.hi<=364:=fun x hx=>by
  obtain⟨t,ht,hx2⟩:=List.mem_flatMap.1 hx;have hx5:=(mem_kept.1 (List.mem_filter.1 hx2).1).1;exact⟨(stretch_good hx5).lo,(stretch_good hx5).le,stretch_hi hx5⟩
 rw[manyX_hits];by_cases hQ:hitsX hd (keptB b s) (truthsR b [])=[]
 ·left
  rw[hQ];refine⟨rfl,?_⟩;rcases hf with⟨q,-⟩|⟨q1,q2,q3,-⟩
  ·exact q
  ·obtain⟨x,hx,-⟩:=(hA (days_in q2)).1 q3;rw[hQ]at hx;exact absurd hx List.not_mem_nil
 ·right
  obtain⟨a1,⟨x,hx,a2⟩,⟨y,hy,a3⟩,a4⟩:=hits_span hQ;generalize hr:(hitsX hd (keptB b s) (truthsR b [])).foldl stepY (0,0,false)=r at*
  obtain⟨x1,x2,x3⟩:=hin x hx;obtain⟨y1,y2,y3⟩:=hin y hy;have hlo:anyS b (truthsR b []) hd s r.1=true:=(hA ⟨by omega,by omega⟩).2 ⟨x,hx,by omega,by omega⟩;have hhi:anyS b (truthsR b []) hd s r.2.1=true:=(hA ⟨by omega,by omega⟩).2 ⟨y,hy,by omega,by omega⟩
  have hall:∀d,0<=d/\d<=364->anyS b (truthsR b []) hd s d=true->r.1<=d/\d<=r.2.1:=fun d h0 e=>by
   obtain⟨z,hz,z1,z2⟩:=(hA h0).1 e;have:=a4 z hz;omega
  have dlo:r.1∈daysR b:=by
   refine mem_days ⟨by omega,by omega⟩ (.inl ?_);by_cases hm:r.1∈marksR b
   ·exact hm
   ·exfalso
    have h00:r.1≠0:=fun e=>hm (by rw[e];unfold marksR;simp);have e1:r.1-1+1=r.1:=by omega
    have:=anyS_same h hh (s:=s) (d:=r.1-1) (by rw[e1];exact hm);rw[e1,hlo]at this;have:=hall (r.1-1) ⟨by omega,by omega⟩ this.symm;omega
  have dhi:r.2.1∈daysR b:=by
   refine mem_days ⟨by omega,by omega⟩ (.inr ?_);by_cases h364:r.2.1=364
   ·exact .inr h364
   ·left
    by_cases hm:r.2.1+1∈marksR b
    ·exact hm
    ·exfalso
     have:=anyS_same h hh (s:=s) (d:=r.2.1) hm;rw[hhi]at this;have:=hall (r.2.1+1) ⟨by omega,by omega⟩ this;omega
  rcases hf with⟨-,q⟩|⟨q1,q2,q3,q4,q5,q6⟩
  ·rw[q _ dlo]at hlo;cases hlo
  ·have h1:=q6 _ dlo hlo;have h2:=q6 _ dhi hhi;have h3:=hall _ (days_in q2) q3;have h4:=hall _ (days_in q4) q5;refine⟨a1,by omega,?_⟩;generalize spanOf b (truthsR b []) hd s=z at*
   obtain⟨zl,zh⟩:=z;simp only at h1 h2 h3 h4;rw[show zl=r.1 by omega,show zh=r.2.1 by omega]
end
noncomputable section
theorem VLe.padDS(l:List Stretch)(n:Nat):VLe (.list 5 l.length (rowsOf tStretch (padD l n))) (tStretch.lst l):=
 VLe.list fun i j hi _=>by
  simp only[rowsOf,padD,gE,aL hi]
theorem padD_len{l:List Stretch}{n:Nat}(h:l.length<=n):(padD l n).length=n:=by simp[padD];omega
theorem VLe.padDN{l:List Stretch}{n:Nat}(h:l.length<=n):VLe (.list 5 n (rowsOf tStretch (padD l n))) (tStretch.lst (padD l n)):=by
 have:=padD_len h;generalize padD l n=z at*
 subst this;exact VLe.refl _
theorem VLe.one{x y:V}(h:VLe x y)(j:Nat):VLe (([x]:List V).getD j uU) (([y]:List V).getD j uU):=by
 cases j with
 |zero=>exact h
 |succ j=>exact VLe.refl _
theorem c34(b:Book)(head:Int)(as_:ByteArray):PC 34 [.agg (tBook.cells b),iI head,.str as_] (·=.tuple [.agg (tSpan.cells (betweenR b head as_).1),iI (betweenR b head as_).2]):=by
 have k74:=c74 b 0 [head];have k59:=c59 as_;have hlit:VLe (.list 1 1 (litC 1 1 [iI head])) (tint.lst [head]):=VLe.lit tint [head] rfl rfl (fun _=>rfl);by_cases h0:(toldR b [head] 0).2=0
 ·obtain⟨hok,hns,hday,hne,htl⟩:=told_ok h0;have hv:=hns head (by simp);rw[if_pos h0,h0]at k74
  cases hn:nameOk as_ with
  |false=>
   have e:betweenR b head as_=(zSpan,6):=by unfold betweenR;rw[if_neg (fun q=>q h0),if_pos hn]
   rw[hn]at k59;rw[e];refine w34y b head as_ (WP.step ?_);simp only[T34y,Go,Ends',v34y,Tr.sure,SS,hn];repeat' with_reducible first|intro _|apply aI
   all_goals first|exact k74|exact k59|exact(by with_reducible exact hlit)|(simp[hn,tSpan,zSpan,Go,Ends',v34y,-List.getD_eq_getElem?_getD, *];done)
   skip
  |true=>
   have hs:as_≠ByteArray.empty:=fun e=>by rw[e]at hn;revert hn;decide
   have e:betweenR b head as_=if(spanOf b (truthsR b []) head as_).lo<0 then(zSpan,4)else(spanOf b (truthsR b []) head as_,0):=by unfold betweenR;rw[if_neg (fun q=>q h0),if_neg (by rw[hn];decide)]
   have k75:=c75 (lookOf b) 0;have k84:=c84x b hok;have hsl:(stretchesR b).length<=100000:=by have:=strD_len hok 365;unfold stretchesR;omega
   have k85:=c85x as_ (stretchesR b) hsl;have hkl:(keptB b as_).length<=100000:=Nat.le_trans (List.length_filter_le _ _) hsl;have hkl2:(keptB b as_).length<=(stretchesR b).length:=List.length_filter_le _ _
   have hr:=range34 b hok head (keptB b as_) hkl fun x hx=>by
    have hx5:=(mem_kept.1 hx).1;obtain⟨j,hj,hjb⟩:=(stretch_good hx5).body;have:=stretch_line hx5;have:=hok.nb;omega
   have hps:=fun j=>VLe.one (VLe.padDS (keptB b as_) (stretchesR b).length) j;have hpn:=VLe.padDN hkl2;have hq0:=VLe.padDS (keptB b as_) (stretchesR b).length;have u1:underL 0 [V.str as_]=true:=rfl;have u4:underL 0 [tStretch.lst (keptB b as_)]=true:=rfl;rw[hn]at k59;rw[e];rcases between_law hok hv hs with⟨q1,q2⟩|⟨q1,q2,q3⟩
   ·rw[if_pos q2];rw[q1]at hr;refine w34y b head as_ (WP.step ?_);simp only[T34y,Go,Ends',v34y,Tr.sure,SS,hn,q1,hkl2];repeat' with_reducible first|intro _|apply aI
    all_goals first|exact k74|exact k59|exact k75|exact(by with_reducible exact hlit)|exact(k84 _)|exact(k85 _ 5 rfl)|exact hr|exact hpn|exact hq0|exact u1|exact(hps _)|(simp[hn,q1,hkl2,tSpan,zSpan,Go,Ends',v34y,-List.getD_eq_getElem?_getD, *];done)
    skip
   ·rw[if_neg q2,q3];rw[q1]at hr;refine w34y b head as_ (WP.step ?_);simp only[T34y,Go,Ends',v34y,Tr.sure,SS,hn,q1,hkl2];repeat' with_reducible first|intro _|apply aI
    all_goals first|exact k74|exact k59|exact k75|exact(by with_reducible exact hlit)|exact(k84 _)|exact(k85 _ 5 rfl)|exact hr|exact hpn|exact hq0|exact u1|exact(hps _)|(simp[hn,q1,hkl2,tSpan,Go,Ends',v34y,-List.getD_eq_getElem?_getD, *];done)
    skip
 ·have hP:betweenR b head as_=(zSpan,(toldR b [head] 0).2):=by unfold betweenR;rw[if_pos h0]
  rw[if_neg h0]at k74;rw[hP];refine w34n b head as_ (WP.step ?_);simp only[T34n,Go,Ends',v34n,Tr.sure,SS,h0];repeat' with_reducible first|intro _|apply aI
  all_goals first|exact(PCalls.arg (pre:=[.agg (tBook.cells b),iI 0]) k74 hlit)|(simp[h0,tSpan,zSpan,Go,Ends',v34n,-List.getD_eq_getElem?_getD, *];done)
  skip
end
noncomputable section
inductive P32a
 |e
inductive R32a
 |r0 (r0:Int) (r1:Int) (r2:MS)
def T32a(n:Nat)(P:List Pair)(H:List (Nat->Int))(K:List Stretch)(hd:Int)(ct:Int)(M:MS):P32a->Tr P32a R32a
 |.e=>(.out (.r0 hd ct M))
noncomputable def g32a(n:Nat)(P:List Pair)(H:List (Nat->Int))(K:List Stretch)(hd:Int)(ct:Int)(M:MS):P32a->List Item × St
 |.e=>([.code (asgOf (rangeOf Tryz.f32))],⟨[uU,uU,uU,.ref 1 0 0,uU,uU,uU,uU,rR (tStretch.lst K),.ref 7 0 0,.ref 9 0 0,uU,uU,uU,uU,uU,uU,uU,uU,uU,uU,uU,uU,uU,uU,uU,uU,uU,uU,uU,uU,uU,.agg [.list 2 n (rowsOf tPair P),.list 5 (n+1) (rowsOf tHave H)],uU,uU,uU,uU,uU,uU,uU,uU,uU,uU,uU,uU,uU,uU,uU,uU,uU,uU,uU,uU,uU,uU,uU,uU,uU,uU,uU,uU,uU,uU,uU,uU,uU,uU,uU,uU,uU,uU,uU,uU,uU,uU,uU,uU,uU,uU,uU,uU,uU,uU,uU,uU,uU,uU,uU,uU,uU,uU,uU,uU,uU],[.gone,.cells [iI hd],.gone,.gone,.gone,.gone,.gone,.cells [iI ct],.obj (mT M),.cells [.map 8]],[]⟩)
def n32a(n:Nat)(P:List Pair)(H:List (Nat->Int))(K:List Stretch)(hd:Int)(ct:Int)(M:MS):R32a->Exit × St
 |.r0 r0 r1 r2=>(.normal,⟨mk 94 [(3,.ref 1 0 0),(8,rR (tStretch.lst K)),(9,.ref 7 0 0),(10,.ref 9 0 0),(11,.ref 10 0 0)],[.gone,.cells [iI r0],.gone,.gone,.gone,.gone,.gone,.cells [iI r1],.obj (mT r2),.cells [.map 8],.cells [.list 2 n (rowsOf tPair P),.list 5 (n+1) (rowsOf tHave H)]],[]⟩)
theorem s32a(n:Nat)(P:List Pair)(H:List (Nat->Int))(K:List Stretch)(hd:Int)(ct:Int)(M:MS):Sm 10 (g32a n P H K hd ct M) (T32a n P H K hd ct M) (n32a n P H K hd ct M)
 |.e=>⟨400,by kernel_rfl⟩
inductive P32b
 |e
 |l0 (x0_37:Int) (o0_8:MS) (a0_11:List ByteArray)
inductive R32b
 |r0 (r0:Int) (r1:Int) (r2:MS)
def T32b(n:Nat)(P:List Pair)(H:List (Nat->Int))(K:List Stretch)(hd:Int)(ct:Int)(M:MS):P32b->Tr P32b R32b
 |.e=>(.need (inR .i64 (ct+(1:Int))) (.wait 2 (.own 12 9 1 (.go (.l0 0 M ([]))))))
 |.l0 x0_37 o0_8 a0_11=>let c1:=K.getD (x0_37).toNat tStretch.zero;let c2:List V:=[.list 2 n (rowsOf tPair P),.list 5 (n+1) (rowsOf tHave H)];let c3:Tr P32b R32b:=.need (inR .i64 (x0_37+(1:Int))) (.go (.l0 (x0_37+(1:Int)) o0_8 a0_11));let c9:=true&&(true&&(true&&(true&&(true&&(true&&true)))));let c10:=decide (0<=c1.line)&&decide (c1.line<((n+1):Int));let c11:=H.getD (c1.line).toNat tHave.zero;let c12:Tr P32b R32b:=.need (inR .i64 (x0_37+(1:Int))) (.go (.l0 (x0_37+(1:Int)) (addN o0_8 (c1.as_)) (c1.as_::a0_11)));let c13:=(decide (a0_11.length=a0_11.length)&&decide (a0_11.length+1<=4294967296))&&decide (1<=1);let c15:=(cntN o0_8 (c1.as_))+(1:Int);let c16:List V:=[.list 1 a0_11.length (rowsRev tstr a0_11),.str (c1.as_)];let c17:=((decide (a0_11.length<=a0_11.length))&&true)&&true;let c18:=rowsRev tstr (c1.as_::a0_11);let c19:=litC 1 1 [.str (c1.as_)];let c20:=mT (addN o0_8 (c1.as_));let c21:=iI (cntN o0_8 (c1.as_));let c22:=c1.span.lo;let c23:=c1.span.hi;let c14:List V:=[iI (c1.line),iI (c1.body),.str (c1.as_),iI c22,iI c23];let c24:List V:=[iI (ct+(1:Int))];let c25:=(decide (0<=(4:Int))&&decide ((4:Int)<(5:Int)))&&true;let c26:=(decide (0<=(3:Int))&&decide ((3:Int)<(5:Int)))&&true;let c27:=(decide (0<=(2:Int))&&decide ((2:Int)<(5:Int)))&&true;let c28:=(decide (0<=(1:Int))&&decide ((1:Int)<(5:Int)))&&true;let c29:=(decide (0<=(0:Int))&&decide ((0:Int)<(5:Int)))&&true;let c30:=opAt Tryz.f32 16 5;let c31:=opAt Tryz.f32 16 3;let c32:=a0_11.length+1;let c33:List V:=[iI (c1.line),iI 4,.str (c1.as_),iI c22,iI c23];let c4:List Blk:=[.gone,.cells [iI hd],.gone,.gone,.gone,.gone,.gone,.cells c24,.obj (mT o0_8),.cells [.map 8],.cells c2,.rows 9 1 c32 c18,.cells c33,.rows 9 1 1 c19];let c34:List V:=[iI (c1.line),iI 3,.str (c1.as_),iI c22,iI c23];let c5:List Blk:=[.gone,.cells [iI hd],.gone,.gone,.gone,.gone,.gone,.cells c24,.obj (mT o0_8),.cells [.map 8],.cells c2,.rows 9 1 c32 c18,.cells c34,.rows 9 1 1 c19];let c35:List V:=[iI (c1.line),iI 2,.str (c1.as_),iI c22,iI c23];let c6:List Blk:=[.gone,.cells [iI hd],.gone,.gone,.gone,.gone,.gone,.cells c24,.obj (mT o0_8),.cells [.map 8],.cells c2,.rows 9 1 c32 c18,.cells c35,.rows 9 1 1 c19];let c36:List V:=[iI (c1.line),iI 1,.str (c1.as_),iI c22,iI c23];let c7:List Blk:=[.gone,.cells [iI hd],.gone,.gone,.gone,.gone,.gone,.cells c24,.obj (mT o0_8),.cells [.map 8],.cells c2,.rows 9 1 c32 c18,.cells c36,.rows 9 1 1 c19];let c37:List V:=[iI (c1.line),iI 0,.str (c1.as_),iI c22,iI c23];let c8:List Blk:=[.gone,.cells [iI hd],.gone,.gone,.gone,.gone,.gone,.cells c24,.obj (mT o0_8),.cells [.map 8],.cells c2,.rows 9 1 c32 c18,.cells c37,.rows 9 1 1 c19];let c38:Tr P32b R32b:=.lit false c3;let c39:=inR .i64 c15;let c40:=(c11 4)==hd;(.br (decide (x0_37<(K.length:Int))) (.need (decide (0<=x0_37)&&decide (x0_37<(K.length:Int))) (.wait 1 (.cas (decide (c1.body=0)) (.telc 12 c14 c37 (.br ((c11 0)==hd) (.front [(15,67,c16,.bool (a0_11.reverse.any fun o=>same o (c1.as_)))] [(11,true)] ((true&&(true&&(true&&(true&&(true&&(true&&(c10&&(c29&&(true&&(true&&(true&&((((c11 0)==hd)==true)&&c9))))))))))))&&c17) true (.br (!(a0_11.reverse.any fun o=>same o (c1.as_))) (.need c13 (.scal (fun _=>true) (.sem c31 [(.tmp 64,.map 8),(.tmp 66,.str (c1.as_))] c8 c21 c8 true (.need c39 (.sem c30 [(.tmp 64,.map 8),(.tmp 66,.str (c1.as_)),(.tmp 68,iI c15)] c8 (uU) [.gone,.cells [iI hd],.gone,.gone,.gone,.gone,.gone,.cells c24,.obj c20,.cells [.map 8],.cells c2,.rows 9 1 c32 c18,.cells c37,.rows 9 1 1 c19] true c12))))) c3)) (.front [] [(11,false)] ((true&&(true&&(true&&(true&&(true&&(true&&(c10&&(c29&&(true&&(true&&(true&&((((c11 0)==hd)==false)&&c9))))))))))))&&true) true c38))) (.cas (decide (c1.body=1)) (.telc 12 c14 c36 (.br ((c11 1)==hd) (.front [(15,67,c16,.bool (a0_11.reverse.any fun o=>same o (c1.as_)))] [(11,true)] ((true&&(true&&(true&&(true&&(true&&(true&&(c10&&(c28&&(true&&(true&&(true&&((((c11 1)==hd)==true)&&c9))))))))))))&&c17) true (.br (!(a0_11.reverse.any fun o=>same o (c1.as_))) (.need c13 (.scal (fun _=>true) (.sem c31 [(.tmp 64,.map 8),(.tmp 66,.str (c1.as_))] c7 c21 c7 true (.need c39 (.sem c30 [(.tmp 64,.map 8),(.tmp 66,.str (c1.as_)),(.tmp 68,iI c15)] c7 (uU) [.gone,.cells [iI hd],.gone,.gone,.gone,.gone,.gone,.cells c24,.obj c20,.cells [.map 8],.cells c2,.rows 9 1 c32 c18,.cells c36,.rows 9 1 1 c19] true c12))))) c3)) (.front [] [(11,false)] ((true&&(true&&(true&&(true&&(true&&(true&&(c10&&(c28&&(true&&(true&&(true&&((((c11 1)==hd)==false)&&c9))))))))))))&&true) true c38))) (.cas (decide (c1.body=2)) (.telc 12 c14 c35 (.br ((c11 2)==hd) (.front [(15,67,c16,.bool (a0_11.reverse.any fun o=>same o (c1.as_)))] [(11,true)] ((true&&(true&&(true&&(true&&(true&&(true&&(c10&&(c27&&(true&&(true&&(true&&((((c11 2)==hd)==true)&&c9))))))))))))&&c17) true (.br (!(a0_11.reverse.any fun o=>same o (c1.as_))) (.need c13 (.scal (fun _=>true) (.sem c31 [(.tmp 64,.map 8),(.tmp 66,.str (c1.as_))] c6 c21 c6 true (.need c39 (.sem c30 [(.tmp 64,.map 8),(.tmp 66,.str (c1.as_)),(.tmp 68,iI c15)] c6 (uU) [.gone,.cells [iI hd],.gone,.gone,.gone,.gone,.gone,.cells c24,.obj c20,.cells [.map 8],.cells c2,.rows 9 1 c32 c18,.cells c35,.rows 9 1 1 c19] true c12))))) c3)) (.front [] [(11,false)] ((true&&(true&&(true&&(true&&(true&&(true&&(c10&&(c27&&(true&&(true&&(true&&((((c11 2)==hd)==false)&&c9))))))))))))&&true) true c38))) (.cas (decide (c1.body=3)) (.telc 12 c14 c34 (.br ((c11 3)==hd) (.front [(15,67,c16,.bool (a0_11.reverse.any fun o=>same o (c1.as_)))] [(11,true)] ((true&&(true&&(true&&(true&&(true&&(true&&(c10&&(c26&&(true&&(true&&(true&&((((c11 3)==hd)==true)&&c9))))))))))))&&c17) true (.br (!(a0_11.reverse.any fun o=>same o (c1.as_))) (.need c13 (.scal (fun _=>true) (.sem c31 [(.tmp 64,.map 8),(.tmp 66,.str (c1.as_))] c5 c21 c5 true (.need c39 (.sem c30 [(.tmp 64,.map 8),(.tmp 66,.str (c1.as_)),(.tmp 68,iI c15)] c5 (uU) [.gone,.cells [iI hd],.gone,.gone,.gone,.gone,.gone,.cells c24,.obj c20,.cells [.map 8],.cells c2,.rows 9 1 c32 c18,.cells c34,.rows 9 1 1 c19] true c12))))) c3)) (.front [] [(11,false)] ((true&&(true&&(true&&(true&&(true&&(true&&(c10&&(c26&&(true&&(true&&(true&&((((c11 3)==hd)==false)&&c9))))))))))))&&true) true c38))) (.cas (decide (c1.body=4)) (.telc 12 c14 c33 (.br c40 (.front [(15,67,c16,.bool (a0_11.reverse.any fun o=>same o (c1.as_)))] [(11,true)] ((true&&(true&&(true&&(true&&(true&&(true&&(c10&&(c25&&(true&&(true&&(true&&((c40==true)&&c9))))))))))))&&c17) true (.br (!(a0_11.reverse.any fun o=>same o (c1.as_))) (.need c13 (.scal (fun _=>true) (.sem c31 [(.tmp 64,.map 8),(.tmp 66,.str (c1.as_))] c4 c21 c4 true (.need c39 (.sem c30 [(.tmp 64,.map 8),(.tmp 66,.str (c1.as_)),(.tmp 68,iI c15)] c4 (uU) [.gone,.cells [iI hd],.gone,.gone,.gone,.gone,.gone,.cells c24,.obj c20,.cells [.map 8],.cells c2,.rows 9 1 c32 c18,.cells c33,.rows 9 1 1 c19] true c12))))) c3)) (.front [] [(11,false)] ((true&&(true&&(true&&(true&&(true&&(true&&(c10&&(c25&&(true&&(true&&(true&&((c40==false)&&c9))))))))))))&&true) true c38))) .never))))))) (.out (.r0 hd (ct+(1:Int)) o0_8)))
noncomputable def g32b(n:Nat)(P:List Pair)(H:List (Nat->Int))(K:List Stretch)(hd:Int)(ct:Int)(M:MS):P32b->List Item × St
 |.e=>([.code (bdyOf (rangeOf Tryz.f32))],⟨[uU,uU,uU,.ref 1 0 0,uU,uU,uU,uU,rR (tStretch.lst K),.ref 7 0 0,.ref 9 0 0,.ref 10 0 0,uU,uU,uU,uU,uU,uU,uU,uU,uU,uU,uU,uU,uU,uU,uU,uU,uU,uU,uU,uU,uU,uU,uU,uU,uU,uU,uU,uU,uU,uU,uU,uU,uU,uU,uU,uU,uU,uU,uU,uU,uU,uU,uU,uU,uU,uU,uU,uU,uU,uU,uU,uU,uU,uU,uU,uU,uU,uU,uU,uU,uU,uU,uU,uU,uU,uU,uU,uU,uU,uU,uU,uU,uU,uU,uU,uU,uU,uU,uU,uU,uU,uU],[.gone,.cells [iI hd],.gone,.gone,.gone,.gone,.gone,.cells [iI ct],.obj (mT M),.cells [.map 8],.cells [.list 2 n (rowsOf tPair P),.list 5 (n+1) (rowsOf tHave H)]],[]⟩)
 |.l0 x0_37 o0_8 a0_11=>((cuts [] (bdyOf (rangeOf Tryz.f32))).getD 0 [],⟨mk 94 [(3,.ref 1 0 0),(10,.ref 9 0 0),(11,.ref 10 0 0),(12,.row 11 a0_11.length),(35,tStretch.lst K),(36,iI (K.length:Int)),(37,iI x0_37)],[.gone,.cells [iI hd],.gone,.gone,.gone,.gone,.gone,.cells [iI (ct+(1:Int))],.obj (mT o0_8),.cells [.map 8],.cells [.list 2 n (rowsOf tPair P),.list 5 (n+1) (rowsOf tHave H)],.rows 9 1 a0_11.length (rowsRev tstr a0_11)],[]⟩)
def n32b(n:Nat)(P:List Pair)(H:List (Nat->Int))(K:List Stretch)(hd:Int)(ct:Int)(M:MS):R32b->Exit × St
 |.r0 r0 r1 r2=>(.normal,⟨mk 94 [],[.gone,.cells [iI r0],.gone,.gone,.gone,.gone,.gone,.cells [iI r1],.obj (mT r2),.cells [.map 8]],[]⟩)
theorem s32b(n:Nat)(P:List Pair)(H:List (Nat->Int))(K:List Stretch)(hd:Int)(ct:Int)(M:MS):Sm 10 (g32b n P H K hd ct M) (T32b n P H K hd ct M) (n32b n P H K hd ct M)
 |.e=>⟨400,by kernel_rfl⟩
 |.l0 _ _ _=>⟨400,by kernel_rfl⟩
theorem idxN_cons(a:ByteArray)(n:Int)(M:MS)(s:ByteArray):idxN ((a,n)::M) s=if a=s then 0 else idxN M s+1:=by
 unfold idxN;rw[List.findIdx_cons];by_cases h:a=s
 ·simp[h]
 ·simp[h]
theorem cntN_cons(a:ByteArray)(n:Int)(M:MS)(s:ByteArray):cntN ((a,n)::M) s=if a=s then n else cntN M s:=by
 unfold cntN;rw[idxN_cons];by_cases h:a=s
 ·rw[if_pos h,if_pos h];rfl
 ·rw[if_neg h,if_neg h];simp[gE]
theorem addN_cons(a:ByteArray)(n:Int)(M:MS)(s:ByteArray):addN ((a,n)::M) s=if a=s then(a,n+1)::M else(a,n)::addN M s:=by
 unfold addN;rw[idxN_cons,cntN_cons];by_cases h:a=s
 ·simp[h]
 ·simp only[if_neg h,List.length_cons,Nat.add_lt_add_iff_right,List.set_cons_succ,List.cons_append];split<;>rfl
theorem cnt_add(s s':ByteArray):∀M:MS,cntN (addN M s) s'=if s'=s then cntN M s+1 else cntN M s'
 |[]=>by
  have e:addN [] s=[(s,1)]:=rfl;rw[e,cntN_cons];have e0:∀z,cntN [] z=0:=fun z=>rfl;rw[e0,e0];by_cases h:s'=s
  ·rw[if_pos h,if_pos h.symm];rfl
  ·rw[if_neg h,if_neg (fun q=>h q.symm)]
 |(a,n)::M=>by
  have ih:=cnt_add s s' M;rw[addN_cons];by_cases h:a=s
  ·subst h;rw[if_pos rfl,cntN_cons,cntN_cons,cntN_cons,if_pos rfl];by_cases h2:s'=a
   ·subst h2;simp
   ·rw[if_neg (fun q=>h2 q.symm),if_neg h2,if_neg (fun q=>h2 q.symm)]
  ·rw[if_neg h,cntN_cons,cntN_cons,cntN_cons,if_neg h,ih];by_cases h2:a=s'
   ·rw[if_pos h2,if_pos h2,if_neg (fun q=>h (h2.trans q))]
   ·rw[if_neg h2,if_neg h2]
abbrev ES:=MS × List ByteArray
def stepE(hd:Int)(H:List (Nat->Int))(s:ES)(x:Stretch):ES:=if hitX hd H x=true then(if(s.2.any fun o=>same o x.as_)=true then s else(addN s.1 x.as_,s.2++ [x.as_]))else s
def runE(hd:Int)(H:List (Nat->Int))(K:List Stretch)(M:MS):ES:=K.foldl (stepE hd H) (M,[])
theorem runE_step(hd:Int)(H:List (Nat->Int))(K:List Stretch)(M:MS)(i:Nat)(hi:i<K.length):runE hd H (K.take (i+1)) M=stepE hd H (runE hd H (K.take i) M) (K.getD i zStretch):=by
 unfold runE;rw[take_snoc zStretch K i hi,List.foldl_append];rfl
theorem runE_len(hd:Int)(H:List (Nat->Int))(K:List Stretch)(M:MS):∀i,i<=K.length->(runE hd H (K.take i) M).2.length<=i/\∀s,cntN M s<=cntN (runE hd H (K.take i) M).1 s/\cntN (runE hd H (K.take i) M).1 s<=cntN M s+i
 |0,_=>⟨Nat.le_refl _,fun s=>⟨Int.le_refl _,by simp[runE]⟩⟩
 |i+1,hi=>by
  obtain⟨h1,h2⟩:=runE_len hd H K M i (by omega);rw[runE_step hd H K M i (by omega)];generalize runE hd H (K.take i) M=S at*
  unfold stepE;split
  ·split
   ·exact⟨by omega,fun s=>by have:=h2 s;omega⟩
   ·refine⟨by simp;omega,fun s=> ?_⟩;have:=h2 s;have e:=cnt_add (K.getD i zStretch).as_ s S.1;simp only;rw[e];split
    ·rename_i q;rw[q]at this⊢;omega
    ·omega
  ·exact⟨by omega,fun s=>by have:=h2 s;omega⟩
theorem look32(hh:List Blk)(M:MS)(s:ByteArray)(hm:hh[8]? =some (.obj (mT M))):SemOK Tryz.prog (opAt Tryz.f32 16 3) [(.tmp 64,.map 8),(.tmp 66,.str s)] hh (iI (cntN M s)) hh:=by
 have e:opAt Tryz.f32 16 3=.lookup 140 (.tmp 64) (.tmp 66) false:=by kernel_rfl
 rw[e];exact semT_lookup (kt:=9) (et:=3) (by kernel_rfl) (by kernel_rfl) (by kernel_rfl) hm s
theorem upd32(hh:List Blk)(M:MS)(s:ByteArray)(hm:hh[8]? =some (.obj (mT M))):SemOK Tryz.prog (opAt Tryz.f32 16 5) [(.tmp 64,.map 8),(.tmp 66,.str s),(.tmp 68,iI (cntN M s+1))] hh uU (hh.set 8 (.obj (mT (addN M s)))):=by
 have e:opAt Tryz.f32 16 5=.mapUpdate 140 (.tmp 64) (.tmp 66) (.tmp 68):=by kernel_rfl
 rw[e];exact semT_update (kt:=9) (et:=3) (by kernel_rfl) (by kernel_rfl) hm s
abbrev HE32(hd:Int)(c:Int)(M:MS):List Blk:=[.gone,.cells [iI hd],.gone,.gone,.gone,.gone,.gone,.cells [iI c],.obj (mT M),.cells [.map 8]]
theorem body32(l:Nat)(n:Nat)(P:List Pair)(H:List (Nat->Int))(K:List Stretch)(hd ct:Int)(M:MS)(hK:K.length<=100000)(hc:0<=ct/\ct<=100000000)(hM:∀s,0<=cntN M s/\cntN M s<=100000000)(hin:∀x∈K,0<=x.line/\x.line<=n/\0<=x.body/\x.body<5):
  AWP Tryz.prog ⟨some l,10⟩ (bdyOf (rangeOf Tryz.f32)) (g32b n P H K hd ct M .e).2 fun e S2=>e=.normal/\S2.h=HE32 hd (ct+1) (runE hd H K M).1:=by
 refine AWP.wp mx (T32b n P H K hd ct M) (g32b n P H K hd ct M) (n32b n P H K hd ct M) .e rfl (s32b n P H K hd ct M) (post:=fun r=>(n32b n P H K hd ct M r).1=.normal/\(n32b n P H K hd ct M r).2.h=HE32 hd (ct+1) (runE hd H K M).1) ?_ (fun r hr=>hr);have hz:tStretch.zero=zStretch:=rfl;have hrc:inR .i64 (ct+1)=true:=inR64 (by omega) (by omega)
 have hmain:WP Tryz.prog ⟨some l,10⟩ (T32b n P H K hd ct M) (Ends' fun r=>(n32b n P H K hd ct M r).1=.normal/\(n32b n P H K hd ct M r).2.h=HE32 hd (ct+1) (runE hd H K M).1) (.l0 0 M []):=by
  refine WP.run (fun i=>.l0 (i:Int) (runE hd H (K.take i) M).1 (runE hd H (K.take i) M).2.reverse) rfl K.length (fun i hi=> ?_) ?_
  ·have hr:inR .i64 ((i:Int)+1)=true:=inR64 (by omega) (by omega);have hi':(i:Int)<K.length:=by omega
   obtain⟨q1,q2,q3,q4⟩:=hin _ (getD_mem zStretch K i hi);obtain⟨n1,n2⟩:=runE_len hd H K M i (by omega);rw[runE_step hd H K M i hi];generalize hS:runE hd H (K.take i) M=S at*
   generalize hX:K.getD i zStretch=X at*
   obtain⟨SM,So⟩:=S;obtain⟨xl,xb,xs,⟨xlo,xhi⟩⟩:=X;simp only at q1 q2 q3 q4 n1 n2;have hl1:xl<(n:Int)+1:=by omega
   have hcn:inR .i64 (cntN SM xs+1)=true:=by have:=n2 xs;have:=hM xs;exact inR64 (by omega) (by omega)
   have hal:So.reverse.length+1<=4294967296:=by rw[List.length_reverse];omega
   have kl:VLe (.list 1 So.reverse.length (rowsRev tstr So.reverse)) (tstr.lst So.reverse.reverse):=VLe.rev tstr So.reverse;have k67:=PCalls.arg (pre:=[]) (c67 So.reverse.reverse xs) kl;have hsr:(So++ [xs]).reverse=xs::So.reverse:=by simp
   have hrr:So.reverse.reverse=So:=List.reverse_reverse _;unfold stepE hitX;simp only;clear hS hin n2 hM hK
   rcases show xb=0\/xb=1\/xb=2\/xb=3\/xb=4 by omega with rfl|rfl|rfl|rfl|rfl
   all_goals
    simp only[Int.toNat_zero,Int.toNat_one,Int.reduceToNat]
   ·rcases Bool.eq_false_or_eq_true ((H.getD xl.toNat tHave.zero) 0==hd)with hh|hh
    ·rcases Bool.eq_false_or_eq_true (So.any fun o=>same o xs)with ha|ha
     all_goals
      simp only[hh,ha,Bool.false_eq_true,↓reduceIte,hsr];rw[<-hrr]at ha;generalize So.reverse=A at*
      rw[ha]at k67;refine WP.once ?_;simp only[T32b,Tr.sure,SS,hi',hz,hX,hh,ha,q1,hl1,Int.toNat_natCast,Int.reduceEq];repeat' with_reducible first|intro _|apply aI
      all_goals first|exact(VLe.refl _)|exact k67|exact(look32 _ _ _ rfl)|exact(upd32 _ _ _ rfl)|(simp[hr,hcn,hal,ha,Go,Ends',-List.getD_eq_getElem?_getD, *];done)
    ·simp only[hh,Bool.false_eq_true,↓reduceIte];generalize So.reverse=A at*
     refine WP.once ?_;simp only[T32b,Tr.sure,SS,hi',hz,hX,hh,q1,hl1,Int.toNat_natCast,Int.reduceEq];repeat' with_reducible first|intro _|apply aI
     all_goals first|exact(VLe.refl _)|(simp[hr,Go,Ends',-List.getD_eq_getElem?_getD, *];done)
   ·rcases Bool.eq_false_or_eq_true ((H.getD xl.toNat tHave.zero) 1==hd)with hh|hh
    ·rcases Bool.eq_false_or_eq_true (So.any fun o=>same o xs)with ha|ha
     all_goals
      simp only[hh,ha,Bool.false_eq_true,↓reduceIte,hsr];rw[<-hrr]at ha;generalize So.reverse=A at*
      rw[ha]at k67;refine WP.once ?_;simp only[T32b,Tr.sure,SS,hi',hz,hX,hh,ha,q1,hl1,Int.toNat_natCast,Int.reduceEq];repeat' with_reducible first|intro _|apply aI
      all_goals first|exact(VLe.refl _)|exact k67|exact(look32 _ _ _ rfl)|exact(upd32 _ _ _ rfl)|(simp[hr,hcn,hal,ha,Go,Ends',-List.getD_eq_getElem?_getD, *];done)
    ·simp only[hh,Bool.false_eq_true,↓reduceIte];generalize So.reverse=A at*
     refine WP.once ?_;simp only[T32b,Tr.sure,SS,hi',hz,hX,hh,q1,hl1,Int.toNat_natCast,Int.reduceEq];repeat' with_reducible first|intro _|apply aI
     all_goals first|exact(VLe.refl _)|(simp[hr,Go,Ends',-List.getD_eq_getElem?_getD, *];done)
   ·rcases Bool.eq_false_or_eq_true ((H.getD xl.toNat tHave.zero) 2==hd)with hh|hh
    ·rcases Bool.eq_false_or_eq_true (So.any fun o=>same o xs)with ha|ha
     all_goals
      simp only[hh,ha,Bool.false_eq_true,↓reduceIte,hsr];rw[<-hrr]at ha;generalize So.reverse=A at*
      rw[ha]at k67;refine WP.once ?_;simp only[T32b,Tr.sure,SS,hi',hz,hX,hh,ha,q1,hl1,Int.toNat_natCast,Int.reduceEq];repeat' with_reducible first|intro _|apply aI
      all_goals first|exact(VLe.refl _)|exact k67|exact(look32 _ _ _ rfl)|exact(upd32 _ _ _ rfl)|(simp[hr,hcn,hal,ha,Go,Ends',-List.getD_eq_getElem?_getD, *];done)
    ·simp only[hh,Bool.false_eq_true,↓reduceIte];generalize So.reverse=A at*
     refine WP.once ?_;simp only[T32b,Tr.sure,SS,hi',hz,hX,hh,q1,hl1,Int.toNat_natCast,Int.reduceEq];repeat' with_reducible first|intro _|apply aI
     all_goals first|exact(VLe.refl _)|(simp[hr,Go,Ends',-List.getD_eq_getElem?_getD, *];done)
   ·rcases Bool.eq_false_or_eq_true ((H.getD xl.toNat tHave.zero) 3==hd)with hh|hh
    ·rcases Bool.eq_false_or_eq_true (So.any fun o=>same o xs)with ha|ha
     all_goals
      simp only[hh,ha,Bool.false_eq_true,↓reduceIte,hsr];rw[<-hrr]at ha;generalize So.reverse=A at*
      rw[ha]at k67;refine WP.once ?_;simp only[T32b,Tr.sure,SS,hi',hz,hX,hh,ha,q1,hl1,Int.toNat_natCast,Int.reduceEq];repeat' with_reducible first|intro _|apply aI
      all_goals first|exact(VLe.refl _)|exact k67|exact(look32 _ _ _ rfl)|exact(upd32 _ _ _ rfl)|(simp[hr,hcn,hal,ha,Go,Ends',-List.getD_eq_getElem?_getD, *];done)
    ·simp only[hh,Bool.false_eq_true,↓reduceIte];generalize So.reverse=A at*
     refine WP.once ?_;simp only[T32b,Tr.sure,SS,hi',hz,hX,hh,q1,hl1,Int.toNat_natCast,Int.reduceEq];repeat' with_reducible first|intro _|apply aI
     all_goals first|exact(VLe.refl _)|(simp[hr,Go,Ends',-List.getD_eq_getElem?_getD, *];done)
   ·rcases Bool.eq_false_or_eq_true ((H.getD xl.toNat tHave.zero) 4==hd)with hh|hh
    ·rcases Bool.eq_false_or_eq_true (So.any fun o=>same o xs)with ha|ha
     all_goals
      simp only[hh,ha,Bool.false_eq_true,↓reduceIte,hsr];rw[<-hrr]at ha;generalize So.reverse=A at*
      rw[ha]at k67;refine WP.once ?_;simp only[T32b,Tr.sure,SS,hi',hz,hX,hh,ha,q1,hl1,Int.toNat_natCast,Int.reduceEq];repeat' with_reducible first|intro _|apply aI
      all_goals first|exact(VLe.refl _)|exact k67|exact(look32 _ _ _ rfl)|exact(upd32 _ _ _ rfl)|(simp[hr,hcn,hal,ha,Go,Ends',-List.getD_eq_getElem?_getD, *];done)
    ·simp only[hh,Bool.false_eq_true,↓reduceIte];generalize So.reverse=A at*
     refine WP.once ?_;simp only[T32b,Tr.sure,SS,hi',hz,hX,hh,q1,hl1,Int.toNat_natCast,Int.reduceEq];repeat' with_reducible first|intro _|apply aI
     all_goals first|exact(VLe.refl _)|(simp[hr,Go,Ends',-List.getD_eq_getElem?_getD, *];done)
  ·rw[List.take_length];refine WP.step ?_;simp only[T32b,Go,Ends',Tr.sure,SS,Int.lt_irrefl];repeat' with_reducible first|intro _|apply aI
   all_goals exact rfl
 refine WP.step ?_;simp only[T32b,Go,Ends',Tr.sure,SS];repeat' with_reducible first|intro _|apply aI
 all_goals first|exact hmain|(simp[hrc,Go,Ends',-List.getD_eq_getElem?_getD, *];done)
end
noncomputable section
def everX(hd:Int)(K:List Stretch)(l:List Truth):MS:=l.foldl (fun M t=>(runE hd (t.haves.map fnH) K M).1) []
abbrev t32(b:Book)(K:List Stretch):List V:=[uU,uU,uU,.ref 1 0 0,uU,uU,uU,uU,rR (tStretch.lst K),.ref 7 0 0,.ref 9 0 0]++List.replicate 20 uU++ [trF b 0]++List.replicate 62 uU
abbrev t32r(b:Book)(K:List Stretch):List V:=[uU,uU,uU,.ref 1 0 0,.row 3 0,.row 2 0,uU,uU,rR (tStretch.lst K),.ref 7 0 0,.ref 9 0 0]++List.replicate 20 uU++ [trF b 0]++List.replicate 62 uU
theorem everX_step{hd:Int}{K:List Stretch}{l:List Truth}{k:Nat}{t:Truth}(h:l[k]? =some t):everX hd K (l.take (k+1))=(runE hd (t.haves.map fnH) K (everX hd K (l.take k))).1:=by
 unfold everX;rw[take_get h,List.foldl_append];rfl
def metE(hd:Int)(H:List (Nat->Int))(K:List Stretch)(s:ByteArray):Bool:=K.any fun x=>hitX hd H x&&decide (x.as_=s)
theorem runE_cnt(hd:Int)(H:List (Nat->Int))(K:List Stretch)(M:MS)(s:ByteArray):∀i,i<=K.length->(s∈(runE hd H (K.take i) M).2↔metE hd H (K.take i) s=true)/\cntN (runE hd H (K.take i) M).1 s=cntN M s+if metE hd H (K.take i) s=true then 1 else 0
 |0,_=>by simp[runE,metE]
 |i+1,hi=>by
  obtain⟨h1,h2⟩:=runE_cnt hd H K M s i (by omega)
  have hmt:metE hd H (K.take (i+1)) s=(metE hd H (K.take i) s||(hitX hd H (K.getD i zStretch)&&decide ((K.getD i zStretch).as_=s))):=by
   unfold metE;rw[take_snoc zStretch K i (by omega),List.any_append];simp
  rw[runE_step hd H K M i (by omega),hmt];generalize runE hd H (K.take i) M=S at*
  generalize K.getD i zStretch=x at*
  unfold stepE;by_cases hh:hitX hd H x=true
  ·rw[if_pos hh];by_cases ha:(S.2.any fun o=>same o x.as_)=true
   ·rw[if_pos ha,hh,Bool.true_and]
    have hmem:x.as_∈S.2:=by
     obtain⟨o,ho,e⟩:=List.any_eq_true.1 ha;rw[same_iff]at e;exact e▸ho
    by_cases hs:x.as_=s
    ·rw[hs]at hmem;rw[h1.1 hmem]at h2⊢;simp only[Bool.true_or]at h2⊢;exact⟨⟨fun _=>by simp,fun _=>hmem⟩,by simpa using h2⟩
    ·simp only[hs,decide_false,Bool.or_false];exact⟨h1,h2⟩
   ·rw[if_neg ha,hh,Bool.true_and];have hno:x.as_∉S.2:=fun q=>ha (List.any_eq_true.2 ⟨_,q,same_iff.2 rfl⟩);simp only[cnt_add];by_cases hs:x.as_=s
    ·subst hs
     have hm0:metE hd H (K.take i) x.as_=false:=by
      cases q:metE hd H (K.take i) x.as_ with
      |false=>rfl
      |true=>exact absurd (h1.2 q) hno
     rw[hm0]at h2⊢;simp only[Bool.false_eq_true,if_false]at h2;simp[h2]
    ·rw[if_neg (fun q=>hs q.symm)];simp only[hs,decide_false,Bool.or_false,List.mem_append,List.mem_singleton,fun q:s=x.as_=>hs q.symm,or_false];refine⟨?_,h2⟩;constructor
     ·rintro(q|q)
      ·exact h1.1 q
      ·exact absurd q.symm hs
     ·exact fun q=>.inl (h1.2 q)
  ·rw[if_neg hh];have:hitX hd H x=false:=by simpa using hh
   rw[this,Bool.false_and,Bool.or_false];exact⟨h1,h2⟩
theorem runE_all(hd:Int)(H:List (Nat->Int))(K:List Stretch)(M:MS)(s:ByteArray):cntN (runE hd H K M).1 s=cntN M s+if metE hd H K s=true then 1 else 0:=by
 have:=(runE_cnt hd H K M s K.length (Nat.le_refl _)).2;rwa[List.take_length]at this
theorem everX_is(hd:Int)(K:List Stretch)(s:ByteArray):∀(l:List Truth) (M:MS),cntN (l.foldl (fun M t=>(runE hd (t.haves.map fnH) K M).1) M) s=cntN M s+((l.filter fun t=>metE hd (t.haves.map fnH) K s).length:Int)
 |[],M=>by simp
 |t::l,M=>by
  rw[List.foldl_cons,everX_is hd K s l,runE_all,List.filter_cons];split
  ·simp only[List.length_cons];omega
  ·omega
theorem everX_count(hd:Int)(K:List Stretch)(l:List Truth)(s:ByteArray):cntN (everX hd K l) s=((l.filter fun t=>metE hd (t.haves.map fnH) K s).length:Int):=by
 have:=everX_is hd K s l [];rw[show cntN [] s=0 from rfl,Int.zero_add]at this;exact this
theorem range32(b:Book)(h:OkBook b)(hd:Int)(K:List Stretch)(hK:K.length<=100000)(hin:∀x∈K,0<=x.line/\x.line<=b.lines.length/\0<=x.body/\x.body<5):
  AWP Tryz.prog ⟨none,0⟩ (rangeOf Tryz.f32) ⟨t32r b K,[.cells (tBook.cells b),.cells [iI hd],.rows 9 1 0 (rowsRev tstr []),.rows 9 1 0 (rowsRev tstr []),.gone,.gone,.gone,.cells [iI 0],.obj (mT []),.cells [.map 8]],[]⟩ (fun e T=>e=.normal/\T=⟨t32r b K,[.cells (tBook.cells b),.cells [iI hd],.rows 9 1 0 (rowsRev tstr []),.rows 9 1 0 (rowsRev tstr []),.gone,.gone,.gone,.cells [iI ((truthsR b []).length:Int)],.obj (mT (everX hd K (truthsR b []))),.cells [.map 8],.obj (.deferred (some []))],[10]⟩):=by
 have e:rangeOf Tryz.f32=.rangeFunc (.tmp 31) #[32] (asgOf (rangeOf Tryz.f32)) (bdyOf (rangeOf Tryz.f32)):=by kernel_rfl
 have hlen:(ysB b 0).length=(truthsR b []).length:=by unfold ysB;rw[List.length_map,butL_zero]
 have hfull:(truthsR b []).take (ysB b 0).length=truthsR b []:=by rw[hlen,List.take_length]
 have hsmall:=truths_len8 h [];rw[e]
 refine(AWP.rangeVT (fs:=[true,false,true,true]) (T:=t32 b K) (H:=fun k=>HE32 hd (k:Int) (everX hd K ((truthsR b []).take k))) (f:=110) (ys:=ysB b 0) (caps:=[rR (lk (lookOf b)),rR (iI 0)])
  rfl rfl (fun i hi hv=> ?_) rfl (fun j=>match j with|4=>.inr (.undef _)|5=>.inr (.undef _)|0=>.inl rfl|1=>.inl rfl|2=>.inl rfl|3=>.inl rfl|j+6=>.inl rfl) rfl rfl (PCalls.enters Tryz.func110 (c:=Tryz.f110.body.getD .skip) (by kernel_rfl) (by kernel_rfl)) (c110 b h 0) rfl (fun _=>rfl) (fun _=>rfl) (fun l k us hu=> ?_) (fun q i k hk=>freeAll (fun b hb=> ?_) i k hk)).mono fun e T q=>⟨q.1,by rw[q.2,hfull,hlen];rfl⟩
 ·match i,hi,hv with
  |0,_,hv=>cases hv
  |1,hi,_=>simp at hi
  |2,_,hv=>cases hv
  |3,_,hv=>cases hv
  |i+4,hi,_=>simp at hi
 ·obtain⟨t,ht,rfl⟩:=ysB_get hu;rw[butL_zero]at ht;have hkl:=(List.getElem?_eq_some_iff.1 ht).1;have hnx:=everX_step (hd:=hd) (K:=K) ht
  have hcn:∀s,0<=cntN (everX hd K ((truthsR b []).take k)) s/\cntN (everX hd K ((truthsR b []).take k)) s<=100000000:=fun s=>by
   rw[everX_count];have:=List.length_filter_le (fun t=>metE hd (t.haves.map fnH) K s) ((truthsR b []).take k);rw[List.length_take]at this;omega
  rw[hnx];generalize everX hd K ((truthsR b []).take k)=M at*
  refine⟨rfl,?_⟩;refine AWP.forget (t:=(setPs [32] [.agg [.list 2 b.lines.length (rowsOf tPair t.pairs),.list 5 (b.lines.length+1) (rowsOf tHave (t.haves.map fnH))]] (t32 b K)).set 31 uU) (by simp) (forget_set _ 31) ?_
  refine AWP.wp mx (T32a b.lines.length t.pairs (t.haves.map fnH) K hd (k:Int) M) (g32a b.lines.length t.pairs (t.haves.map fnH) K hd (k:Int) M) (n32a b.lines.length t.pairs (t.haves.map fnH) K hd (k:Int) M) .e rfl (s32a b.lines.length t.pairs (t.haves.map fnH) K hd (k:Int) M)
   (post:=fun r=>(n32a b.lines.length t.pairs (t.haves.map fnH) K hd (k:Int) M r).1=.normal/\(n32a b.lines.length t.pairs (t.haves.map fnH) K hd (k:Int) M r).2=(g32b b.lines.length t.pairs (t.haves.map fnH) K hd (k:Int) M .e).2) ?_ (fun r hr=> ?_)
  ·refine WP.step ?_;simp only[T32a,Go,Ends',Tr.sure,SS];repeat' with_reducible first|intro _|apply aI
   all_goals exact rfl
  ·rw[hr.2];exact⟨hr.1,rfl,body32 l b.lines.length t.pairs (t.haves.map fnH) K hd (k:Int) M hK ⟨by omega,by omega⟩ hcn hin⟩
 ·simp only[List.mem_cons,List.not_mem_nil,or_false]at hb;rcases hb with rfl|rfl|rfl|rfl|rfl|rfl|rfl|rfl|rfl|rfl
  all_goals trivial
end
noncomputable section
inductive P32y
 |e
 |l1 (a1_2:List ByteArray) (a1_3:List ByteArray) (i1_11:Array Nat)
inductive R32y
 |r0 (r0:List ByteArray) (r1:List ByteArray) (r2:Int)
 |r1 (r0:List ByteArray) (r1:List ByteArray) (r2:Int)
def T32y(b:Book)(head:Int):P32y->Tr P32y R32y
 |.e=>let c3:=rowsRev tstr ([]);let c4:=stretchesR b;let c1:List V:=[uU,uU,uU,.ref 1 0 0,.row 3 0,.row 2 0,uU,uU,rR (tStretch.lst c4),.ref 7 0 0,.ref 9 0 0,uU,uU,uU,uU,uU,uU,uU,uU,uU,uU,uU,uU,uU,uU,uU,uU,uU,uU,uU,uU,fG 110 [rR (lk (lookOf b)),rR (iI 0)],uU,uU,uU,uU,uU,uU,uU,uU,uU,uU,uU,uU,uU,uU,uU,uU,uU,uU,uU,uU,uU,uU,uU,uU,uU,uU,uU,uU,uU,uU,uU,uU,uU,uU,uU,uU,uU,uU,uU,uU,uU,uU,uU,uU,uU,uU,uU,uU,uU,uU,uU,uU,uU,uU,uU,uU,uU,uU,uU,uU,uU,uU];let c5:=(decide (c4.length<=c4.length))&&true;let c6:=rowsOf tStretch c4;let c7:=everX head c4 (truthsR b []);let c2:List Blk:=[.cells (cC b),.cells [iI head],.rows 9 1 0 c3,.rows 9 1 0 c3,.gone,.gone,.gone,.cells [iI ((truthsR b []).length:Int)],.obj (mT c7),.cells [.map 8],.obj (.deferred (some []))];(.wait 2 (.own 5 9 1 (.own 4 9 1 (.wait 2 (.frz 4 ((decide (1<=1))&&true) (.wait 0 (.vle 20 (.list 1 1 (litC 1 1 [iI head])) (tint.lst ([head]:List Int)) (.call 74 [.agg (cC b),iI 0,tint.lst ([head]:List Int)] (.tuple [lk (lookOf b),iI 0]) true true (.br ((0:Int) !=(0:Int)) (.wait 2 (.own 5 9 1 (.own 4 9 1 (.out (.r0 ([]) ([]) 0))))) (.hcall 84 [lk (lookOf b)] (.row 5 (c4.length)) [.cells (cC b),.cells [iI head],.rows 9 1 0 c3,.rows 9 1 0 c3,.gone] [.cells (cC b),.cells [iI head],.rows 9 1 0 c3,.rows 9 1 0 c3,.gone,.rows 142 5 (c4.length) c6] true (.wait 1 (.frz 5 (c5&&(c5&&true)) (.vle 28 (.list 5 (c4.length) c6) (tStretch.lst c4) (.telc 6 [.list 5 (c4.length) c6] [tStretch.lst c4] (.wait 2 (.frz 6 (underL 0 [tStretch.lst c4]) (.sem (opAt Tryz.f32 6 0) [] [.cells (cC b),.cells [iI head],.rows 9 1 0 c3,.rows 9 1 0 c3,.gone,.gone,.gone,.cells [iI 0]] (.map 8) [.cells (cC b),.cells [iI head],.rows 9 1 0 c3,.rows 9 1 0 c3,.gone,.gone,.gone,.cells [iI 0],.obj (mT ([]))] true (.call 75 [lk (lookOf b),iI 0] (fG 110 [rR (lk (lookOf b)),rR (iI 0)]) true true (.wait 1 (.drop ⟨[uU,uU,uU,.nil,.nil,.nil,uU,uU,.nil,.nil,.nil,uU,uU,uU,uU,uU,uU,uU,uU,uU,uU,uU,uU,uU,uU,uU,uU,uU,uU,uU,uU,.nil,uU,uU,uU,uU,uU,uU,uU,uU,uU,uU,uU,uU,uU,uU,uU,uU,uU,uU,uU,uU,uU,uU,uU,uU,uU,uU,uU,uU,uU,uU,uU,uU,uU,uU,uU,uU,uU,uU,uU,uU,uU,uU,uU,uU,uU,uU,uU,uU,uU,uU,uU,uU,uU,uU,uU,uU,uU,uU,uU,uU,uU,uU],[.void,.void,.void,.void,.void,.void,.void,.void,.void,.void],[]⟩ (.over (rangeOf Tryz.f32) ⟨c1,[.cells (cC b),.cells [iI head],.rows 9 1 0 c3,.rows 9 1 0 c3,.gone,.gone,.gone,.cells [iI 0],.obj (mT ([])),.cells [.map 8]],[]⟩ .normal ⟨c1,c2,[10]⟩ true (.sem (opAt Tryz.f32 18 1) [(.tmp 70,.map 8)] c2 (.ref 11 0 0) [.cells (cC b),.cells [iI head],.rows 9 1 0 c3,.rows 9 1 0 c3,.gone,.gone,.gone,.cells [iI ((truthsR b []).length:Int)],.obj (mT c7),.cells [.map 8],.obj (.deferred (some [])),.iter (.map 8) (c7.length) (#[])] true (.go (.l1 ([]) ([]) (#[])))))))))))))))))))))))))
 |.l1 a1_2 a1_3 i1_11=>let c1:=everX head (stretchesR b) (truthsR b []);let c3:=leftM c1.length i1_11;let c5:=((truthsR b []).length:Int);let c6:=sortT a1_3.reverse;let c7:=sortT a1_2.reverse;let c8:V:=.list 1 a1_3.length (rowsOf tstr c6);let c9:V:=.list 1 a1_2.length (rowsOf tstr c7);let c10:=decide (a1_3.length<=a1_3.length);let c11:=decide (a1_2.length<=a1_2.length);let c12:=rowsRev tstr a1_3;let c13:=rowsRev tstr a1_2;let c2:List Blk:=[.gone,.gone,.rows 9 1 a1_2.length c13,.rows 9 1 a1_3.length c12,.gone,.gone,.gone,.cells [iI c5],.obj (mT c1),.gone,.obj (.deferred (some [])),.iter (.map 8) (c1.length) i1_11];let c4:List Blk:=[.gone,.gone,.rows 9 1 a1_2.length c13,.rows 9 1 a1_3.length (rowsOf tstr c6),.gone,.gone,.gone,.cells [iI c5],.obj (mT c1),.gone,.obj (.deferred (some [])),.iter (.map 8) (c1.length) i1_11];(.wait 1 (.cas (decide (leftM c1.length i1_11≠ [])) (.semn (opAt Tryz.f32 19 0) [(.tmp 71,.ref 11 0 0)] c2 (c3.length) (fun j=>.tuple [.bool true,.str ((c1.getD (c3.getD j 0) (ByteArray.empty,0)).1),iI ((c1.getD (c3.getD j 0) (ByteArray.empty,0)).2)]) (fun j=>[.gone,.gone,.rows 9 1 a1_2.length c13,.rows 9 1 a1_3.length c12,.gone,.gone,.gone,.cells [iI c5],.obj (mT c1),.gone,.obj (.deferred (some [])),.iter (.map 8) (c1.length) (i1_11.push (c3.getD j 0))]) true (fun j=>(.lit true (.sem (opAt Tryz.f32 20 0) [(.tmp 71,.ref 11 0 0)] [.gone,.gone,.rows 9 1 a1_2.length c13,.rows 9 1 a1_3.length c12,.gone,.gone,.gone,.cells [iI c5],.obj (mT c1),.gone,.obj (.deferred (some [])),.iter (.map 8) (c1.length) (i1_11.push (c3.getD j 0))] (.tuple [.str ((c1.getD (c3.getD j 0) (ByteArray.empty,0)).1),iI ((c1.getD (c3.getD j 0) (ByteArray.empty,0)).2)]) [.gone,.gone,.rows 9 1 a1_2.length c13,.rows 9 1 a1_3.length c12,.gone,.gone,.gone,.cells [iI c5],.obj (mT c1),.gone,.obj (.deferred (some [])),.iter (.map 8) (c1.length) (i1_11.push (c3.getD j 0))] true (.need ((decide (a1_2.length=a1_2.length)&&decide (a1_2.length+1<=4294967296))&&decide (1<=1)) (.scal (fun _=>true) (.br ((c1.getD (c3.getD j 0) (ByteArray.empty,0)).2==c5) (.need ((decide (a1_3.length=a1_3.length)&&decide (a1_3.length+1<=4294967296))&&decide (1<=1)) (.scal (fun _=>true) (.go (.l1 ((c1.getD (c3.getD j 0) (ByteArray.empty,0)).1::a1_2) ((c1.getD (c3.getD j 0) (ByteArray.empty,0)).1::a1_3) (i1_11.push (c3.getD j 0)))))) (.go (.l1 ((c1.getD (c3.getD j 0) (ByteArray.empty,0)).1::a1_2) a1_3 (i1_11.push (c3.getD j 0))))))))))) (.sem (opAt Tryz.f32 19 0) [(.tmp 71,.ref 11 0 0)] c2 (.tuple [.bool false]) c2 true (.lit false (.hcall 82 [.row 3 a1_3.length] (.tuple []) c2 c4 true (.hcall 82 [.row 2 a1_2.length] (.tuple []) c4 [.gone,.gone,.rows 9 1 a1_2.length (rowsOf tstr c7),.rows 9 1 a1_3.length (rowsOf tstr c6),.gone,.gone,.gone,.cells [iI c5],.obj (mT c1),.gone,.obj (.deferred (some [])),.iter (.map 8) (c1.length) i1_11] true (.wait 1 (.frz 3 (c10&&(c10&&true)) (.vle 88 c8 (tstr.lst c6) (.vle 4 c8 (tstr.lst c6) (.frz 2 (c11&&(c11&&true)) (.vle 90 c9 (tstr.lst c7) (.vle 5 c9 (tstr.lst c7) (.out (.r1 c6 c7 0)))))))))))))))
noncomputable def g32y(b:Book)(head:Int):P32y->List Item × St
 |.e=>bd Tryz.f32 [.agg (cC b),iI head] 92
 |.l1 a1_2 a1_3 i1_11=>(cutOf Tryz.f32 0,⟨mk 94 [(4,.row 3 a1_3.length),(5,.row 2 a1_2.length),(9,.ref 7 0 0),(71,.ref 11 0 0)],[.gone,.gone,.rows 9 1 a1_2.length (rowsRev tstr a1_2),.rows 9 1 a1_3.length (rowsRev tstr a1_3),.gone,.gone,.gone,.cells [iI ((truthsR b []).length:Int)],.obj (mT (everX head (stretchesR b) (truthsR b []))),.gone,.obj (.deferred (some [])),.iter (.map 8) ((everX head (stretchesR b) (truthsR b [])).length) i1_11],[10]⟩)
def n32y(b:Book)(head:Int):R32y->Exit × St
 |.r0 r0 r1 r2=>(.ret,⟨mk 94 [(4,.row 6 r0.length),(5,.row 5 r1.length),(6,iI r2)],[.gone,.gone,.gone,.gone,.gone,.rows 9 1 r1.length (rowsRev tstr r1),.rows 9 1 r0.length (rowsRev tstr r0)],[]⟩)
 |.r1 r0 r1 r2=>(.ret,⟨mk 94 [(4,tstr.lst r0),(5,tstr.lst r1),(6,iI r2)],[.gone,.gone,.gone,.gone,.gone,.gone,.gone,.gone,.gone,.gone,.obj (.deferred (some []))],[10]⟩)
def v32y(b:Book)(head:Int):R32y->V
 |.r0 r0 r1 r2=>.tuple [tstr.lst r0.reverse,tstr.lst r1.reverse,iI r2]
 |.r1 r0 r1 r2=>.tuple [tstr.lst r0,tstr.lst r1,iI r2]
theorem s32y(b:Book)(head:Int):Sm 0 (g32y b head) (T32y b head) (n32y b head)
 |.e=>⟨400,by kernel_rfl⟩
 |.l1 _ _ _=>⟨400,by kernel_rfl⟩
theorem q32y(b:Book)(head:Int):∀r,bodyQ Tryz.prog Tryz.f32 (·=v32y b head r) (n32y b head r).1 (n32y b head r).2
 |.r0 r0 r1 r2=>⟨.inr rfl,by simp[n32y],(.tuple [.row 6 r0.length,.row 5 r1.length,iI r2]),(.tuple [tstr.lst r0.reverse,tstr.lst r1.reverse,iI r2]),by kernel_rfl,(.tuple rfl fun j hj=>match j,hj with|0,_=>.weak (.row rfl (Nat.le_refl _)) (VLe.rev tstr r0)|1,_=>.weak (.row rfl (Nat.le_refl _)) (VLe.rev tstr r1)|2,_=>.imm rfl),rfl⟩
 |.r1 r0 r1 r2=>⟨.inr rfl,by simp[n32y],(.tuple [tstr.lst r0,tstr.lst r1,iI r2]),(.tuple [tstr.lst r0,tstr.lst r1,iI r2]),by kernel_rfl,(.imm rfl),rfl⟩
theorem w32y(b:Book)(head:Int){post:V->Prop}(h:WP Tryz.prog ⟨none,0⟩ (T32y b head) (Ends' fun r=>post (v32y b head r)) .e):PC 32 [.agg (cC b),iI head] post:=
 PCalls.wq Tryz.func32 (s32y b head) (q32y b head) h
inductive P32n
 |e
inductive R32n
 |r0 (r0:List ByteArray) (r1:List ByteArray) (r2:Int)
def T32n(b:Book)(head:Int):P32n->Tr P32n R32n
 |.e=>let c1:=toldR b [head] 0;(.wait 2 (.own 5 9 1 (.own 4 9 1 (.call 74 [.agg (cC b),iI 0,.list 1 1 (litC 1 1 [iI head])] (.tuple [.nil,iI (c1.2)]) ((decide (1<=1))&&true) true (.br (c1.2 !=(0:Int)) (.wait 2 (.own 5 9 1 (.own 4 9 1 (.out (.r0 ([]) ([]) (c1.2)))))) (.wait 2 .never))))))
noncomputable def g32n(b:Book)(head:Int):P32n->List Item × St
 |.e=>bd Tryz.f32 [.agg (cC b),iI head] 92
def n32n(b:Book)(head:Int):R32n->Exit × St
 |.r0 r0 r1 r2=>(.ret,⟨mk 94 [(4,.row 6 r0.length),(5,.row 5 r1.length),(6,iI r2)],[.gone,.gone,.gone,.gone,.gone,.rows 9 1 r1.length (rowsRev tstr r1),.rows 9 1 r0.length (rowsRev tstr r0)],[]⟩)
def v32n(b:Book)(head:Int):R32n->V
 |.r0 r0 r1 r2=>.tuple [tstr.lst r0.reverse,tstr.lst r1.reverse,iI r2]
theorem s32n(b:Book)(head:Int):Sm 0 (g32n b head) (T32n b head) (n32n b head)
 |.e=>⟨400,by kernel_rfl⟩
theorem q32n(b:Book)(head:Int):∀r,bodyQ Tryz.prog Tryz.f32 (·=v32n b head r) (n32n b head r).1 (n32n b head r).2
 |.r0 r0 r1 r2=>⟨.inr rfl,by simp[n32n],(.tuple [.row 6 r0.length,.row 5 r1.length,iI r2]),(.tuple [tstr.lst r0.reverse,tstr.lst r1.reverse,iI r2]),by kernel_rfl,(.tuple rfl fun j hj=>match j,hj with|0,_=>.weak (.row rfl (Nat.le_refl _)) (VLe.rev tstr r0)|1,_=>.weak (.row rfl (Nat.le_refl _)) (VLe.rev tstr r1)|2,_=>.imm rfl),rfl⟩
theorem w32n(b:Book)(head:Int){post:V->Prop}(h:WP Tryz.prog ⟨none,0⟩ (T32n b head) (Ends' fun r=>post (v32n b head r)) .e):PC 32 [.agg (cC b),iI head] post:=
 PCalls.wq Tryz.func32 (s32n b head) (q32n b head) h
end
noncomputable section
structure GoodN(M:MS):Prop where
 nd:(M.map (·.1)).Nodup
 pos:∀p∈M,0<p.2
theorem cnt_mem:∀ {M:MS},(M.map (·.1)).Nodup->∀p∈M,cntN M p.1=p.2
 |[],_,p,hp=>absurd hp List.not_mem_nil
 |(a,n)::M,hn,p,hp=>by
  rw[cntN_cons];rw[List.map_cons,List.nodup_cons]at hn;rcases List.mem_cons.1 hp with rfl|q
  ·rw[if_pos rfl]
  ·have:a≠p.1:=fun e=>hn.1 (e▸List.mem_map.2 ⟨p,q,rfl⟩);rw[if_neg this];exact cnt_mem hn.2 p q
theorem cnt_zero:∀ {M:MS} {s:ByteArray},s∉M.map (·.1)->cntN M s=0
 |[],_,_=>rfl
 |(a,n)::M,s,h=>by
  rw[List.map_cons,List.mem_cons]at h;rw[cntN_cons,if_neg (fun e=>h (.inl e.symm))];exact cnt_zero fun q=>h (.inr q)
theorem key_pos{M:MS}(h:GoodN M){s:ByteArray}:s∈M.map (·.1)↔0<cntN M s:=by
 constructor
 ·intro hs;obtain⟨p,hp,rfl⟩:=List.mem_map.1 hs;rw[cnt_mem h.nd p hp];exact h.pos p hp
 ·intro hc;by_cases hs:s∈M.map (·.1)
  ·exact hs
  ·rw[cnt_zero hs]at hc;omega
theorem good_add{M:MS}(h:GoodN M)(s:ByteArray):GoodN (addN M s):=by
 unfold addN;rcases idxN_cases M s with⟨hj,hs,hn⟩|⟨he,hn⟩
 ·rw[if_pos hj];have hcm:=cnt_mem h.nd M[idxN M s] (List.getElem_mem hj);rw[hs]at hcm;have hp:=h.pos M[idxN M s] (List.getElem_mem hj);refine⟨?_,fun p hp2=> ?_⟩
  ·have e:(M.set (idxN M s) (s,cntN M s+1)).map (·.1)=M.map (·.1):=by
    apply List.ext_getElem?;intro i;rw[List.map_set];by_cases hi:idxN M s=i
    ·subst hi;rw[List.getElem?_set_self (by simpa using hj),(keyN hj hs hn).1]
    ·rw[sN hi]
   rw[e];exact h.nd
  ·rcases List.mem_or_eq_of_mem_set hp2 with q|rfl
   ·exact h.pos p q
   ·simp only;omega
 ·rw[if_neg (by omega)];refine⟨?_,fun p hp=> ?_⟩
  ·rw[List.map_append,List.nodup_append];refine⟨h.nd,by simp,fun a ha b hb=> ?_⟩;simp only[List.map_cons,List.map_nil,List.mem_singleton]at hb;subst hb;exact fun e=>noN hn (e▸ha)
  ·rcases List.mem_append.1 hp with q|q
   ·exact h.pos p q
   ·rw[List.mem_singleton.1 q];show(0:Int)<1;omega
theorem good_run(hd:Int)(H:List (Nat->Int)):∀(K:List Stretch) (S:ES),GoodN S.1->GoodN (K.foldl (stepE hd H) S).1
 |[],_,h=>h
 |x::K,S,h=>by
  rw[List.foldl_cons];refine good_run hd H K _ ?_;unfold stepE;split
  ·split
   ·exact h
   ·exact good_add h _
  ·exact h
theorem good_ever(hd:Int)(K:List Stretch)(l:List Truth):GoodN (everX hd K l):=by
 have:∀(l:List Truth) (M:MS),GoodN M->GoodN (l.foldl (fun M t=>(runE hd (t.haves.map fnH) K M).1) M):=by
  intro l
  induction l with
  |nil=>intro M h;exact h
  |cons t l ih=>intro M h;rw[List.foldl_cons];exact ih _ (good_run hd _ K (M,[]) h)
 exact this l [] ⟨List.nodup_nil,fun p hp=>absurd hp List.not_mem_nil⟩
theorem seen_days{b:Book}(h:OkBook b){t:Truth}(ht:t∈truthsR b []){hd:Int}(hh:0<=hd/\hd<b.bodies.length){s:ByteArray}:∀n:Nat,n<=364->seenR b t hd (n:Int)=s->∃d∈daysR b,seenR b t hd d=s
 |0,hn,e=>⟨0,mem_days ⟨by omega,by omega⟩ (.inl (by unfold marksR;simp)),e⟩
 |n+1,hn,e=>by
  by_cases hm:((n:Int)+1)∈marksR b
  ·exact⟨((n+1:Nat):Int),mem_days ⟨by omega,by omega⟩ (.inl (by simpa using hm)),e⟩
  ·have:=seen_same h ht hh hm;refine seen_days h ht hh n (by omega) ?_;rw[<-this];simpa using e
theorem met_shown{b:Book}(h:OkBook b){t:Truth}(ht:t∈truthsR b []){hd:Int}(hh:0<=hd/\hd<b.bodies.length){s:ByteArray}(hs:s≠ByteArray.empty):metE hd (t.haves.map fnH) (stretchesR b) s=shownR b t hd s (daysR b):=by
 rw[Bool.eq_iff_iff];unfold metE shownR;rw[List.any_eq_true,List.any_eq_true];constructor
 ·rintro⟨x,hx,e⟩
  rw[Bool.and_eq_true,decide_eq_true_eq]at e;have g:=stretch_good hx;have ghi:=stretch_hi hx;have hseen:=(stretch_seen h ht hh (day:=x.span.lo) ⟨g.lo,by have:=g.le;omega⟩ hs).2 ⟨x,hx,e.2,(hit_iff h ht hx (stretch_line hx)).1 e.1,Int.le_refl _,g.le⟩;have hn:((x.span.lo.toNat:Nat):Int)=x.span.lo:=Int.toNat_of_nonneg g.lo;obtain⟨d,hd1,hd2⟩:=seen_days h ht hh (s:=s) x.span.lo.toNat (by have:=g.le;have:=g.lo;omega) (by rw[hn];exact hseen)
  exact⟨d,hd1,same_iff.2 hd2⟩
 ·rintro⟨d,hd1,e⟩
  obtain⟨x,hx,h1,h2,_,_⟩:=(stretch_seen h ht hh (days_in hd1) hs).1 (same_iff.1 e);exact⟨x,hx,by rw[Bool.and_eq_true,decide_eq_true_eq];exact⟨(hit_iff h ht hx (stretch_line hx)).2 h2,h1⟩⟩
theorem ever_many{b:Book}(h:OkBook b){hd:Int}(hh:0<=hd/\hd<b.bodies.length){s:ByteArray}(hs:s≠ByteArray.empty):cntN (everX hd (stretchesR b) (truthsR b [])) s=(manyS b (truthsR b []) hd s:Int):=by
 rw[everX_count];unfold manyS;congr 2
 exact List.filter_congr fun t ht=>met_shown h ht hh hs
theorem ever_empty{b:Book}{hd:Int}:cntN (everX hd (stretchesR b) (truthsR b [])) ByteArray.empty=0:=by
 rw[everX_count]
 have:(truthsR b []).filter (fun t=>metE hd (t.haves.map fnH) (stretchesR b) ByteArray.empty)=[]:=by
  rw[List.filter_eq_nil_iff];intro t _ e;unfold metE at e;obtain⟨x,hx,e⟩:=List.any_eq_true.1 e;rw[Bool.and_eq_true,decide_eq_true_eq]at e;exact(stretch_good hx).ne e.2
 rw[this];rfl
end
end Go.Proofs.YtemgodefhcbleaaGreat
