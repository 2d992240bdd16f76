/-
  Part of the proof of the Claim laws. Conditions: those that stand in each theorem.
-/
import Derived.Test.YtdamoemndifpmaaGreatChecked
import Derived.Shelf.Sort.Plain
import Derived.Ground.Names2Prog
import Derived.Shelf.Slices.CompactI
import Derived.Shelf.Slices.In.SortNone
import Derived.Test.YtdamoemndifpmaaGreatProg
import Derived.Sort.Grow
import Derived.Lib.SlicesCompact
import Derived.WideLaws
import Derived.Lib.SliceRun
import Derived.Test.YtdamoemndifpmaaGreatB06
set_option linter.unusedSimpArgs false
set_option linter.unusedVariables false
set_option maxRecDepth 100000
namespace Go.Proofs.YtdamoemndifpmaaGreat
open Ab
structure Span where
 lo:Int
 hi:Int
 deriving DecidableEq
structure Mould where
 name:ByteArray
 casts:Int
 lasts:List Span
structure Head where
 name:ByteArray
 shows:List Int
structure Shop where
 features:Int
 moulds:List Mould
 heads:List Head
structure Claim where
 own:Int
 kind:Int
 a:Int
 b:Int
 mould:Int
 feature:Int
 number:Int
 worth:Int
structure Case where
 shop:Shop
 owners:List Int
 claims:List Claim
structure Cast where
 mould:Int
 number:Int
 deriving DecidableEq
structure Entry where
 head:Int
 feature:Int
 deriving DecidableEq
def zSpan:Span:=⟨0,0⟩
def zMould:Mould:=⟨ByteArray.empty,0,[]⟩
def zHead:Head:=⟨ByteArray.empty,[]⟩
def zCast:Cast:=⟨0,0⟩
def within(n a b:Int):Bool:=decide (a<=n)&&decide (n<=b)
def index(n:Int)(many:Nat):Bool:=within n 0 ((many:Int)-1)
theorem within_iff{n a b:Int}:within n a b=true↔a<=n/\n<=b:=by simp[within]
theorem index_iff{n:Int}{m:Nat}:index n m=true↔0<=n/\n<m:=by simp[index,within];omega
def outside(lo hi:Int)(l:List Int):Bool:=l.any fun n=> !within n lo hi
def firstR{τ:Type}(of:Nat->τ->Int)(l:List τ):Int × Int:=match firstE of 0 l with|some (i,e)=>((i:Int),e)|none=>(0,0)
def endsErr(x:Span)(a b:Int):Int:=if !within x.lo a b|| !within x.hi a b then 7 else if x.hi<x.lo then 2 else 0
def spanErr(x:Span):Int:=endsErr x 0 6
def lastsErr(l:List Span):Int:=match firstE (fun _ x=>spanErr x) 0 l with|some (_,e)=>e|none=>0
def letter(c:UInt8):Bool:=within (c.toNat:Int) 97 122
def other(c:UInt8):Bool:=within (c.toNat:Int) 48 57||(c.toNat:Int)==46
def nameFrom(first:Bool):List UInt8->Bool
 |[]=>true
 |c::cs=>(letter c|| !first&&other c)&&nameFrom false cs
def nameOk(s:ByteArray):Bool:=decide (s.size≠0)&&decide (s.size<=16)&&nameFrom true s.data.toList
def same(a b:ByteArray):Bool:=a.toList==b.toList
def indexS(l:List ByteArray)(s:ByteArray):Int:=match firstI (fun o=>same o s) 0 l with|some i=>i|none=> -1
def newErr(s:ByteArray)(others:List ByteArray):Int:=if !nameOk s then 6 else if others.any (fun o=>same o s)then 5 else 0
def mouldErr(features:Int)(m:Mould):Int:=if !within m.casts 1 4 then 7 else if(m.lasts.length:Int)≠features then 3 else lastsErr m.lasts
def headErr(features:Int)(h:Head):Int:=if(h.shows.length:Int)≠features then 3 else if h.shows.any (fun n=> !within n 0 2)then 7 else 0
def mouldAt(s:Shop)(i:Nat)(m:Mould):Int:=if newErr m.name ((s.moulds.map (·.name)).take i)≠0 then newErr m.name ((s.moulds.map (·.name)).take i)else mouldErr s.features m
def headAt(s:Shop)(i:Nat)(h:Head):Int:=if newErr h.name ((s.heads.map (·.name)).take i)≠0 then newErr h.name ((s.heads.map (·.name)).take i)else headErr s.features h
def shopCheck(s:Shop):Int × Int × Int:=
 if !within s.features 1 4 then(1,0,7)
 else if(2:Int)<s.moulds.length then(2,0,3)
 else match firstE (mouldAt s) 0 s.moulds with
  |some (i,e)=>(2,i,e)
  |none=>
   if(4:Int)<s.heads.length then(3,0,3)
   else match firstE (headAt s) 0 s.heads with
    |some (i,e)=>(3,i,e)
    |none=>(0,0,0)
structure OkShop(s:Shop):Prop where
 feat:1<=s.features/\s.features<=4
 nm:s.moulds.length<=2
 nh:s.heads.length<=4
 mould:∀m∈s.moulds,(1<=m.casts/\m.casts<=4)/\(m.lasts.length:Int)=s.features/\∀x∈m.lasts,0<=x.lo/\x.lo<=x.hi/\x.hi<=6
 head:∀h∈s.heads,(h.shows.length:Int)=s.features/\∀n∈h.shows,0<=n/\n<=2
theorem okSpan{x:Span}(h:spanErr x=0):0<=x.lo/\x.lo<=x.hi/\x.hi<=6:=by
 simp only[spanErr,endsErr]at h;split at h
 ·cases h
 ·rename_i h1;simp only[Bool.or_eq_true,Bool.not_eq_eq_eq_not,Bool.not_true,not_or,Bool.not_eq_false,within_iff]at h1;split at h
  ·cases h
  ·omega
theorem okMould{f:Int}{m:Mould}(h:mouldErr f m=0):(1<=m.casts/\m.casts<=4)/\(m.lasts.length:Int)=f/\∀x∈m.lasts,0<=x.lo/\x.lo<=x.hi/\x.hi<=6:=by
 simp only[mouldErr]at h;split at h
 ·cases h
 ·rename_i h1;split at h
  ·cases h
  ·rename_i h2;simp only[Bool.not_eq_eq_eq_not,Bool.not_true,Bool.not_eq_false,within_iff,ne_eq,Decidable.not_not]at h1 h2;refine⟨h1,h2,fun x hx=> ?_⟩;simp only[lastsErr]at h;split at h
   ·rename_i he;exact absurd h (firstE_ne he)
   ·rename_i he;obtain⟨j,hj⟩:=firstE_none he x hx;exact okSpan hj
theorem okHead{f:Int}{h:Head}(e:headErr f h=0):(h.shows.length:Int)=f/\∀n∈h.shows,0<=n/\n<=2:=by
 simp only[headErr]at e;split at e
 ·cases e
 ·rename_i h2;split at e
  ·cases e
  ·rename_i h3;refine⟨Decidable.not_not.1 h2,fun n hn=> ?_⟩;simp only[List.any_eq_true,not_exists,not_and,Bool.not_eq_eq_eq_not,Bool.not_true,Bool.not_eq_false,within_iff]at h3;exact h3 n hn
theorem okShop{s:Shop}(h:(shopCheck s).2.2=0):OkShop s:=by
 simp only[shopCheck]at h;split at h
 ·cases h
 ·rename_i h1;split at h
  ·cases h
  ·rename_i h2;split at h
   ·rename_i he;exact absurd h (firstE_ne he)
   ·rename_i he;split at h
    ·cases h
    ·rename_i h3;split at h
     ·rename_i he';exact absurd h (firstE_ne he')
     ·rename_i he';simp only[Bool.not_eq_eq_eq_not,Bool.not_true,Bool.not_eq_false,within_iff]at h1;refine⟨h1,by omega,by omega,fun m hm=> ?_,fun x hx=> ?_⟩
      ·obtain⟨j,hj⟩:=firstE_none he m hm;simp only[mouldAt]at hj;split at hj
       ·rename_i hne;exact absurd hj hne
       ·exact okMould hj
      ·obtain⟨j,hj⟩:=firstE_none he' x hx;simp only[headAt]at hj;split at hj
       ·rename_i hne;exact absurd hj hne
       ·exact okHead hj
def pair(k:Int):Bool:=k==1||k==2||k==3
def lasting(k:Int):Bool:=k==4||k==5
def named(s:Shop)(x:Claim):Bool:=
 if pair x.kind then index x.a s.heads.length&&index x.b s.heads.length
 else if lasting x.kind then index x.mould s.moulds.length&&within x.feature 0 (s.features-1)
 else index x.a s.heads.length&&index x.mould s.moulds.length
def spare(x:Claim):Bool:=
 if pair x.kind then x.mould==0&&(x.feature==0&&x.number==0)
 else if lasting x.kind then x.a==0&&x.b==0
 else x.b==0&&x.feature==0
def named0(s:Shop)(x:Claim):Bool:=index x.a s.heads.length&&index x.mould s.moulds.length
def named1(s:Shop)(x:Claim):Bool:=index x.a s.heads.length&&index x.b s.heads.length
def named4(s:Shop)(x:Claim):Bool:=index x.mould s.moulds.length&&within x.feature 0 (s.features-1)
def fine0(x:Claim):Bool:=x.b==0&&x.feature==0
def fine1(x:Claim):Bool:= !(x.a==x.b)&&(x.mould==0&&(x.feature==0&&x.number==0))
def fine4(x:Claim):Bool:=x.a==0&&x.b==0
def most0(s:Shop)(x:Claim):Int:=(s.moulds.getD x.mould.toNat zMould).casts
def claimErr(s:Shop)(x:Claim):Int:=
 if !within x.own 0 1|| !within x.worth 1 100|| !within x.kind 0 5 then 7
 else if !named s x then 4
 else if pair x.kind&&x.a==x.b|| !spare x then 2
 else if x.kind==0&& !within x.number 1 (s.moulds.getD x.mould.toNat zMould).casts||lasting x.kind&& !within x.number 1 6 then 7
 else 0
def caseCheck(c:Case):Int × Int × Int:=
 if(shopCheck c.shop).2.2≠0 then(1,0,(shopCheck c.shop).2.2)
 else if(c.owners.length:Int)≠c.shop.heads.length then(2,0,3)
 else match firstE (fun _ n=>if within n 0 1 then 0 else 7) 0 c.owners with
  |some (i,e)=>(2,i,e)
  |none=>
   if(5:Int)<c.claims.length then(3,0,3)
   else match firstE (fun _ x=>claimErr c.shop x) 0 c.claims with
    |some (i,e)=>(3,i,e)
    |none=>(0,0,0)
def soF(x:Claim)(l:Nat->Cast):Bool:=
 if x.kind==0 then l x.a.toNat==⟨x.mould,x.number⟩
 else if x.kind==1 then(l x.a.toNat).mould==(l x.b.toNat).mould
 else if x.kind==2 then(l x.a.toNat).mould !=(l x.b.toNat).mould
 else(l x.a.toNat).mould==(l x.b.toNat).mould&&decide ((l x.a.toNat).number<(l x.b.toNat).number)
def soC(x:Claim)(l:List Cast):Bool:=soF x fun i=>l.getD i zCast
def soL(x:Claim)(last:Int):Bool:=if x.kind==4 then decide (x.number<=last)else decide (last<=x.number)
def castsAt(s:Shop)(i:Nat):List Cast:=(List.range (s.moulds.getD i zMould).casts.toNat).map fun(n:Nat)=>⟨(i:Int),(n:Int)+1⟩
def allCasts(s:Shop):List Cast:=(List.range s.moulds.length).flatMap (castsAt s)
def narrow(has:Int)(n:Int)(x:Span):Span:=if has=1 then⟨max x.lo n,x.hi⟩else if has=2 then⟨x.lo,min x.hi (n-1)⟩else x
def lastStep(s:Shop)(m f:Int)(i:Nat)(c:Cast)(x:Span):Span:=if c.mould=m then narrow ((s.heads.getD i zHead).shows.getD f.toNat 0) c.number x else x
def span0(s:Shop)(m f:Int):Span:=(s.moulds.getD m.toNat zMould).lasts.getD f.toNat zSpan
def lastTo(s:Shop)(l:List Cast)(m f:Int)(n:Nat):Span:=natF (fun i x=>lastStep s m f i (l.getD i zCast) x) (span0 s m f) n
def lastOf(s:Shop)(l:List Cast)(m f:Int):Span:=lastTo s l m f l.length
def sameC(a b:Cast):Bool:=a.mould==b.mould&&a.number==b.number
def dup(l:List Cast):Bool:=(List.range l.length).any fun i=>(List.range i).any fun k=>sameC (l.getD i zCast) (l.getD k zCast)
def bad(s:Shop)(l:List Cast):Bool:=(List.range s.moulds.length).any fun m=>(List.range s.features.toNat).any fun f=>decide ((lastOf s l m f).hi<(lastOf s l m f).lo)
def agrees(s:Shop)(l:List Cast):Bool:= !dup l&& !bad s l
def ext(s:Shop)(l:List Cast):List (List Cast):=((allCasts s).map fun c=>l++ [c]).filter (agrees s)
def growN(s:Shop):Nat->List (List Cast)
 |0=>[[]]
 |n+1=>(growN s n).flatMap (ext s)
def truths(s:Shop):List (List Cast):=growN s s.heads.length
def CastOk(s:Shop)(c:Cast):Prop:=0<=c.mould/\c.mould<s.moulds.length/\1<=c.number/\c.number<=(s.moulds.getD c.mould.toNat zMould).casts
theorem mem_allCasts{s:Shop}{c:Cast}:c∈allCasts s↔CastOk s c:=by
 simp only[allCasts,castsAt,List.mem_flatMap,List.mem_range,List.mem_map,CastOk];constructor
 ·rintro⟨i,hi,n,hn,rfl⟩
  simp only[Int.toNat_natCast];omega
 ·rintro⟨h1,h2,h3,h4⟩
  refine⟨c.mould.toNat,by omega,c.number.toNat-1,by omega,?_⟩;obtain⟨a,b⟩:=c;simp only at h1 h2 h3 h4⊢;congr 1<;>omega
theorem castOk_le{s:Shop}(h:OkShop s){c:Cast}(hc:CastOk s c):1<=c.number/\c.number<=4:=by
 obtain⟨h1,h2,h3,h4⟩:=hc;have:=(h.mould _ (getD_mem zMould s.moulds c.mould.toNat (by omega))).1;omega
theorem allCasts_le{s:Shop}(h:OkShop s):(allCasts s).length<=8:=by
 have h1:=flat_le (l:=List.range s.moulds.length) (f:=castsAt s) (b:=4) fun i hi=>by
  have:=(h.mould _ (getD_mem zMould s.moulds i (List.mem_range.1 hi))).1;simp only[castsAt,List.length_map,List.length_range];omega
 have h2:=h.nm;simp only[List.length_range]at h1;unfold allCasts;omega
theorem ext_mem{s:Shop}{l x:List Cast}(h:x∈ext s l):∃c,CastOk s c/\x=l++ [c]/\agrees s x=true:=by
 simp only[ext,List.mem_filter,List.mem_map]at h;obtain⟨⟨c,hc,rfl⟩,ha⟩:=h;exact⟨c,mem_allCasts.1 hc,rfl,ha⟩
theorem grow_mem{s:Shop}:∀ {n:Nat} {l:List Cast},l∈growN s n->l.length=n/\∀c∈l,CastOk s c
 |0,l,h=>by simp only[growN,List.mem_singleton]at h;subst h;simp
 |n+1,l,h=>by
  simp only[growN,List.mem_flatMap]at h;obtain⟨k,hk,hx⟩:=h;obtain⟨c,hc,rfl,_⟩:=ext_mem hx;obtain⟨h1,h2⟩:=grow_mem hk;refine⟨by simp[h1],fun d hd=> ?_⟩;rcases List.mem_append.1 hd with hd|hd
  ·exact h2 d hd
  ·simp only[List.mem_singleton]at hd;subst hd;exact hc
theorem ext_le{s:Shop}(h:OkShop s)(l:List Cast):(ext s l).length<=8:=by
 have h1:=List.length_filter_le (agrees s) ((allCasts s).map fun c=>l++ [c]);have h2:=allCasts_le h;rw[List.length_map]at h1;unfold ext;omega
theorem grow_le{s:Shop}(h:OkShop s):∀n,(growN s n).length<=8^n
 |0=>by simp[growN]
 |n+1=>by
  have h1:=flat_le (l:=growN s n) (f:=ext s) (b:=8) fun x _=>ext_le h x;have h2:=grow_le h n;simp only[growN,Nat.pow_succ];omega
theorem grow_small{s:Shop}(h:OkShop s){n:Nat}(hn:n<=4):(growN s n).length<=4096:=
 Nat.le_trans (grow_le h n) (by
  have:n=0\/n=1\/n=2\/n=3\/n=4:=by omega
  rcases this with rfl|rfl|rfl|rfl|rfl<;>decide)
def bitZ(n:Int):Int:=2^n.toNat
def hasZ(set i:Int):Bool:=(set.tdiv (bitZ i)).tmod 2==1
def allZ(set:Int)(l:List Int):Bool:=l.all (hasZ set)
def hasN(l:List Int)(n:Int):Bool:=l.any (·==n)
def maskTo(p:Nat->Bool)(n:Nat):Int:=natF (fun i acc=>if p i=true then acc+bitZ i else acc) 0 n
theorem bitZ_nat(n:Nat):bitZ (n:Int)=2^n:=by simp[bitZ]
theorem mask_succ(p:Nat->Bool)(n:Nat):maskTo p (n+1)=if p n=true then maskTo p n+bitZ n else maskTo p n:=rfl
theorem mask_range(p:Nat->Bool):∀n,0<=maskTo p n/\maskTo p n<2^n
 |0=>by simp[maskTo,natF]
 |n+1=>by
  have h:=mask_range p n;rw[mask_succ,bitZ_nat,Int.pow_succ];have hp:(0:Int)<2^n:=Int.pow_pos (by decide);split<;>omega
theorem mask_congr{p q:Nat->Bool}{n:Nat}(h:∀i,i<n->p i=q i):maskTo p n=maskTo q n:=
 natF_congr fun i hi x=>by rw[h i hi]
theorem mask_add{p q:Nat->Bool}:∀ {n:Nat},(∀i,i<n->(p i&&q i)=false)->maskTo p n+maskTo q n=maskTo (fun i=>p i||q i) n
 |0,_=>by simp[maskTo,natF]
 |n+1,h=>by
  have ih:=mask_add (p:=p) (q:=q) (n:=n) fun i hi=>h i (by omega);have hn:=h n (by omega);rw[mask_succ,mask_succ,mask_succ,<-ih];cases hp:p n<;>cases hq:q n<;>simp[hp,hq]at hn⊢<;>omega
theorem mask_lt{p:Nat->Bool}{n:Nat}(h:n<=5):0<=maskTo p n/\maskTo p n<32:=by
 have:=mask_range p n
 have h2:(2:Int)^n<=32:=by
  have:n=0\/n=1\/n=2\/n=3\/n=4\/n=5:=by omega
  rcases this with rfl|rfl|rfl|rfl|rfl|rfl<;>decide
 omega
def so(x:Claim)(l:List Cast)(last:Int):Bool:=if lasting x.kind=true then soL x last else soC x l
def zClaim:Claim:=⟨0,0,0,0,0,0,0,0⟩
def cl(c:Case)(i:Nat):Claim:=c.claims.getD i zClaim
def castP(c:Case)(l:List Cast)(i:Nat):Bool:= !lasting (cl c i).kind&&so (cl c i) l 0
def aboutP(c:Case)(l:List Cast)(m f last:Int)(i:Nat):Bool:=lasting (cl c i).kind&&((cl c i).mould==m&&((cl c i).feature==f&&so (cl c i) l last))
def castTo(c:Case)(l:List Cast)(n:Nat):Int:=maskTo (castP c l) n
def aboutTo(c:Case)(l:List Cast)(m f last:Int)(n:Nat):Int:=maskTo (aboutP c l m f last) n
def aboutR(c:Case)(l:List Cast)(m f last:Int):Int:=aboutTo c l m f last c.claims.length
def addNew(next:List Int)(x:Int):List Int:=if hasN next x=true then next else next++ [x]
def innerN(out:List Int)(own:Int)(next:List Int)(k:Nat):List Int:=natF (fun k next=>addNew next (out.getD k 0+own)) next k
def lastsN(c:Case)(l:List Cast)(m f:Int)(out:List Int)(n:Nat):List Int:=natF (fun(n:Nat) next=>innerN out (aboutR c l m f ((lastOf c.shop l m f).lo+(n:Int))) next out.length) [] n
def wide(x:Span):Nat:=(x.hi-x.lo+1).toNat
def stepR(c:Case)(l:List Cast)(m f:Int)(out:List Int):List Int:=lastsN c l m f out (wide (lastOf c.shop l m f))
def featR(c:Case)(l:List Cast)(m:Int)(out:List Int)(n:Nat):List Int:=natF (fun(f:Nat) out=>stepR c l m f out) out n
def mouldR(c:Case)(l:List Cast)(n:Nat):List Int:=natF (fun(m:Nat) out=>featR c l m out c.shop.features.toNat) [castTo c l c.claims.length] n
def casesR(c:Case)(l:List Cast):List Int:=mouldR c l c.shop.moulds.length
theorem hasN_iff{l:List Int}{n:Int}:hasN l n=true↔n∈l:=by simp[hasN]
theorem mem_addNew{l:List Int}{x y:Int}:y∈addNew l x↔y∈l\/y=x:=by
 unfold addNew;split
 ·rename_i h;rw[hasN_iff]at h;exact⟨.inl,fun h'=>h'.elim id fun e=>e▸h⟩
 ·simp
theorem mem_innerN{out next:List Int}{own y:Int}:∀ {k:Nat},k<=out.length->(y∈innerN out own next k↔y∈next\/∃i,i<k/\y=out.getD i 0+own)
 |0,_=>by simp[innerN,natF]
 |k+1,h=>by
  show y∈addNew (innerN out own next k) _↔_;rw[mem_addNew,mem_innerN (by omega)];constructor
  ·rintro((h|⟨i,hi,e⟩)|e)
   ·exact .inl h
   ·exact .inr ⟨i,by omega,e⟩
   ·exact .inr ⟨k,by omega,e⟩
  ·rintro(h|⟨i,hi,e⟩)
   ·exact .inl (.inl h)
   ·by_cases q:i=k
    ·subst q;exact .inr e
    ·exact .inl (.inr ⟨i,by omega,e⟩)
theorem mem_inner{out next:List Int}{own y:Int}:y∈innerN out own next out.length↔y∈next\/∃o∈out,y=o+own:=by
 rw[mem_innerN (Nat.le_refl _)];constructor
 ·rintro(h|⟨i,hi,e⟩)
  ·exact .inl h
  ·exact .inr ⟨_,getD_mem 0 out i hi,e⟩
 ·rintro(h|⟨o,ho,e⟩)
  ·exact .inl h
  ·obtain⟨i,hi,e2⟩:=List.getElem_of_mem ho;exact .inr ⟨i,hi,by rw[e,gE,List.getElem?_eq_getElem hi,e2];rfl⟩
theorem mem_lastsN{c:Case}{l:List Cast}{m f:Int}{out:List Int}{y:Int}:∀ {n:Nat},y∈lastsN c l m f out n↔∃k:Nat,k<n/\∃o∈out,y=o+aboutR c l m f ((lastOf c.shop l m f).lo+(k:Int))
 |0=>by simp[lastsN,natF]
 |n+1=>by
  show y∈innerN out _ (lastsN c l m f out n) out.length↔_;rw[mem_inner,mem_lastsN];constructor
  ·rintro(⟨k,hk,h⟩|h)
   ·exact⟨k,by omega,h⟩
   ·exact⟨n,by omega,h⟩
  ·rintro⟨k,hk,h⟩
   by_cases q:k=n
   ·subst q;exact .inr h
   ·exact .inl ⟨k,by omega,h⟩
theorem mem_stepR{c:Case}{l:List Cast}{m f:Int}{out:List Int}{y:Int}:y∈stepR c l m f out↔∃last,(lastOf c.shop l m f).lo<=last/\last<=(lastOf c.shop l m f).hi/\∃o∈out,y=o+aboutR c l m f last:=by
 unfold stepR;rw[mem_lastsN];constructor
 ·rintro⟨k,hk,h⟩
  unfold wide at hk;exact⟨_,by omega,by omega,h⟩
 ·rintro⟨last,h1,h2,h⟩
  refine⟨(last-(lastOf c.shop l m f).lo).toNat,by unfold wide;omega,?_⟩;rw[show(lastOf c.shop l m f).lo+((last-(lastOf c.shop l m f).lo).toNat:Int)=last by omega];exact h
def pairsOf(M F:Nat):List (Int × Int):=(List.range M).flatMap fun(m:Nat)=>(List.range F).map fun(f:Nat)=>((m:Int),(f:Int))
theorem featR_fold(c:Case)(l:List Cast)(m:Int)(out:List Int):∀n,featR c l m out n=((List.range n).map fun(f:Nat)=>(m,(f:Int))).foldl (fun out p=>stepR c l p.1 p.2 out) out
 |0=>rfl
 |n+1=>by
  rw[List.range_succ,List.map_append,List.foldl_append,<-featR_fold c l m out n];rfl
theorem mouldR_fold(c:Case)(l:List Cast):∀n,mouldR c l n=(pairsOf n c.shop.features.toNat).foldl (fun out p=>stepR c l p.1 p.2 out) [castTo c l c.claims.length]
 |0=>rfl
 |n+1=>by
  rw[pairsOf,List.range_succ,List.flatMap_append,List.foldl_append];rw[show(List.flatMap (fun(m:Nat)=>(List.range c.shop.features.toNat).map fun(f:Nat)=>((m:Int),(f:Int))) (List.range n))=pairsOf n c.shop.features.toNat from rfl,<-mouldR_fold c l n];simp only[List.flatMap_cons,List.flatMap_nil,List.append_nil];rw[<-featR_fold];rfl
def setP(c:Case)(l:List Cast)(done:List (Int × Int))(L:Int->Int->Int)(i:Nat):Bool:=
 if lasting (cl c i).kind=true then done.contains ((cl c i).mould,(cl c i).feature)&&soL (cl c i) (L (cl c i).mould (cl c i).feature)else soC (cl c i) l
def setOf(c:Case)(l:List Cast)(done:List (Int × Int))(L:Int->Int->Int):Int:=maskTo (setP c l done L) c.claims.length
def LastsOk(c:Case)(l:List Cast)(done:List (Int × Int))(L:Int->Int->Int):Prop:=∀p∈done,(lastOf c.shop l p.1 p.2).lo<=L p.1 p.2/\L p.1 p.2<=(lastOf c.shop l p.1 p.2).hi
theorem setOf_snoc{c:Case}{l:List Cast}{done:List (Int × Int)}{m f:Int}(hn:(m,f)∉done)(L:Int->Int->Int):
  setOf c l (done++ [(m,f)]) L=setOf c l done L+aboutR c l m f (L m f):=by
 unfold setOf aboutR aboutTo;rw[mask_add]
 ·refine mask_congr fun i _=> ?_;simp only[setP,aboutP,so]
  cases hk:lasting (cl c i).kind with
  |false=>simp
  |true=>
   simp only[if_true,Bool.true_and];by_cases e:(cl c i).mould=m/\(cl c i).feature=f
   ·obtain⟨e1,e2⟩:=e;rw[e1,e2];have h1:done.contains (m,f)=false:=by simpa using hn
    rw[h1];simp
   ·have h2:((cl c i).mould==m&&((cl c i).feature==f&&soL (cl c i) (L m f)))=false:=by
     rw[Bool.eq_false_iff];intro h;simp only[Bool.and_eq_true,beq_iff_eq]at h;exact e ⟨h.1,h.2.1⟩
    rw[h2]
    have h3:(done++ [(m,f)]).contains ((cl c i).mould,(cl c i).feature)=done.contains ((cl c i).mould,(cl c i).feature):=by
     rw[Bool.eq_iff_iff];simp only[List.contains_iff_mem,List.mem_append,List.mem_singleton,Prod.mk.injEq];exact⟨fun h=>h.elim id fun h=>absurd h e,.inl⟩
    rw[h3];simp
 ·intro i _;simp only[setP,aboutP]
  cases hk:lasting (cl c i).kind with
  |false=>simp
  |true=>
   simp only[if_true,Bool.true_and];by_cases e:(cl c i).mould=m/\(cl c i).feature=f
   ·obtain⟨e1,e2⟩:=e;rw[e1,e2];have h1:done.contains (m,f)=false:=by simpa using hn
    rw[h1];simp
   ·have h2:((cl c i).mould==m&&((cl c i).feature==f&&so (cl c i) l (L m f)))=false:=by
     rw[Bool.eq_false_iff];intro h;simp only[Bool.and_eq_true,beq_iff_eq]at h;exact e ⟨h.1,h.2.1⟩
    rw[h2];simp
theorem setOf_congr{c:Case}{l:List Cast}{done:List (Int × Int)}{L L':Int->Int->Int}(h:∀p∈done,L p.1 p.2=L' p.1 p.2):setOf c l done L=setOf c l done L':=by
 refine mask_congr fun i _=> ?_;simp only[setP]
 cases hk:lasting (cl c i).kind with
 |false=>simp
 |true=>
  simp only[if_true]
  cases hc:done.contains ((cl c i).mould,(cl c i).feature)with
  |false=>simp
  |true=>
   have:=h _ (List.contains_iff_mem.1 hc);simp only at this;rw[this]
theorem fold_mem{c:Case}{l:List Cast}{step:Int->Int->List Int->List Int}(hstep:∀m f out y,(∀o∈out,0<=o/\o<32)->(y∈step m f out↔∃last,(lastOf c.shop l m f).lo<=last/\last<=(lastOf c.shop l m f).hi/\∃o∈out,y=o+aboutR c l m f last))(h5:c.claims.length<=5):
  ∀(ps done:List (Int × Int)) (out:List Int),(done++ps).Nodup->(∀y,y∈out↔∃L,LastsOk c l done L/\y=setOf c l done L)->
   ∀y,y∈ps.foldl (fun out p=>step p.1 p.2 out) out↔∃L,LastsOk c l (done++ps) L/\y=setOf c l (done++ps) L
 |[],done,out,_,h=>by simpa using h
 |(m,f)::ps,done,out,hnd,h=>by
  have hn:(m,f)∉done:=fun hm=>by
   rw[List.nodup_append]at hnd;exact hnd.2.2 _ hm _ (by simp) rfl
  have hr:∀o∈out,0<=o/\o<32:=fun o ho=>by
   obtain⟨L,_,rfl⟩:=(h o).1 ho;exact mask_lt h5
  have key:=fold_mem hstep h5 ps (done++ [(m,f)]) (step m f out) (by simpa using hnd) fun y=>by
   rw[hstep m f out y hr];constructor
   ·rintro⟨last,h1,h2,o,ho,rfl⟩
    obtain⟨L,hL,rfl⟩:=(h o).1 ho
    have hsame:∀p∈done,L p.1 p.2=(fun m' f'=>if m'=m/\f'=f then last else L m' f') p.1 p.2:=fun p hp=>by
     have:¬(p.1=m/\p.2=f):=fun e=>hn (by have:p=(m,f):=Prod.ext e.1 e.2;rwa[<-this]);simp only[this,if_false]
    refine⟨fun m' f'=>if m'=m/\f'=f then last else L m' f',fun p hp=> ?_,?_⟩
    ·rcases List.mem_append.1 hp with hp|hp
     ·have:=hL p hp;rw[<-hsame p hp];exact this
     ·simp only[List.mem_singleton]at hp;subst hp;simpa using⟨h1,h2⟩
    ·rw[setOf_snoc hn,setOf_congr (L':=fun m' f'=>if m'=m/\f'=f then last else L m' f') hsame];simp
   ·rintro⟨L,hL,rfl⟩
    have:=hL (m,f) (by simp);refine⟨L m f,this.1,this.2,setOf c l done L,(h _).2 ⟨L,fun p hp=>hL p (List.mem_append_left _ hp),rfl⟩,setOf_snoc hn L⟩
  simpa using key
theorem pairs_nodup(M F:Nat):(pairsOf M F).Nodup:=by
 unfold pairsOf
 induction M with
 |zero=>simp
 |succ M ih=>
  rw[List.range_succ,List.flatMap_append,List.nodup_append];refine⟨ih,?_,fun a ha b hb e=> ?_⟩
  ·simp only[List.flatMap_cons,List.flatMap_nil,List.append_nil];rw[List.nodup_iff_pairwise_ne,List.pairwise_map];exact(List.nodup_iff_pairwise_ne.1 List.nodup_range).imp fun h e=>h (by have:((_:Nat):Int)=((_:Nat):Int):=(Prod.mk.inj e).2;exact Int.ofNat.inj this)
  ·subst e;simp only[List.mem_flatMap,List.mem_range,List.mem_map,List.flatMap_cons,List.flatMap_nil,List.append_nil]at ha hb;obtain⟨m,hm,f,_,rfl⟩:=ha;obtain⟨f',_,e⟩:=hb;simp only[Prod.mk.injEq]at e;omega
theorem start_mem{c:Case}{l:List Cast}(y:Int):y∈ [castTo c l c.claims.length]↔∃L,LastsOk c l [] L/\y=setOf c l [] L:=by
 have e:∀L,setOf c l [] L=castTo c l c.claims.length:=fun L=>mask_congr fun i _=>by
  simp only[setP,castP,so];cases hk:lasting (cl c i).kind<;>simp
 constructor
 ·intro h;simp only[List.mem_singleton]at h;exact⟨fun _ _=>0,fun p hp=>by simp at hp,by rw[h,e]⟩
 ·rintro⟨L,_,rfl⟩
  simp[e]
theorem mem_casesR{c:Case}{l:List Cast}(h5:c.claims.length<=5)(y:Int):y∈casesR c l↔∃L,LastsOk c l (pairsOf c.shop.moulds.length c.shop.features.toNat) L/\y=setOf c l (pairsOf c.shop.moulds.length c.shop.features.toNat) L:=by
 unfold casesR;rw[mouldR_fold];have:=fold_mem (c:=c) (l:=l) (step:=stepR c l) (fun m f out y _=>mem_stepR) h5 (pairsOf c.shop.moulds.length c.shop.features.toNat) [] [castTo c l c.claims.length] (by simpa using pairs_nodup _ _) start_mem y;simpa using this
theorem casesR_lt{c:Case}{l:List Cast}(h5:c.claims.length<=5){y:Int}(h:y∈casesR c l):0<=y/\y<32:=by
 obtain⟨L,_,rfl⟩:=(mem_casesR h5 y).1 h;exact mask_lt h5
def caseSets(c:Case):List Int:=((List.range 32).filter fun(s:Nat)=>(truths c.shop).any fun l=>hasN (casesR c l) s).map fun(s:Nat)=>(s:Int)
structure OkClaim(s:Shop)(x:Claim):Prop where
 own:0<=x.own/\x.own<=1
 worth:1<=x.worth/\x.worth<=100
 kind:0<=x.kind/\x.kind<=5
 cast:x.kind=0->(0<=x.a/\x.a<s.heads.length)/\(0<=x.mould/\x.mould<s.moulds.length)/\1<=x.number/\x.number<=(s.moulds.getD x.mould.toNat zMould).casts
 pair:x.kind=1\/x.kind=2\/x.kind=3->(0<=x.a/\x.a<s.heads.length)/\(0<=x.b/\x.b<s.heads.length)
 last:x.kind=4\/x.kind=5->(0<=x.mould/\x.mould<s.moulds.length)/\(0<=x.feature/\x.feature<s.features)/\1<=x.number/\x.number<=6
theorem okClaim{s:Shop}{x:Claim}(h:claimErr s x=0):OkClaim s x:=by
 simp only[claimErr]at h;split at h
 ·cases h
 rename_i h1;split at h
 ·cases h
 rename_i h2;split at h
 ·cases h
 rename_i h3;split at h
 ·cases h
 rename_i h4;simp only[Bool.or_eq_true,Bool.not_eq_eq_eq_not,Bool.not_true,not_or,Bool.not_eq_false,within_iff,Bool.and_eq_true,not_and,beq_iff_eq]at h1 h2 h3 h4;obtain⟨⟨q1,q2⟩,q3⟩:=h1;refine⟨q1,q2,q3,fun hk=> ?_,fun hk=> ?_,fun hk=> ?_⟩
 ·have e1:Go.Proofs.YtdamoemndifpmaaGreat.pair x.kind=false:=by rw[hk];rfl
  have e2:lasting x.kind=false:=by rw[hk];rfl
  simp only[named,e1,e2,Bool.false_eq_true,if_false,Bool.and_eq_true,index_iff]at h2;exact⟨h2.1,h2.2,h4.1 hk⟩
 ·have:Go.Proofs.YtdamoemndifpmaaGreat.pair x.kind=true:=by rcases hk with hk|hk|hk<;>rw[hk]<;>rfl
  simp only[named,this,if_true,Bool.and_eq_true,index_iff]at h2;exact h2
 ·have e1:Go.Proofs.YtdamoemndifpmaaGreat.pair x.kind=false:=by rcases hk with hk|hk<;>rw[hk]<;>rfl
  have e2:lasting x.kind=true:=by rcases hk with hk|hk<;>rw[hk]<;>rfl
  simp only[named,e1,e2,if_true,Bool.and_eq_true,index_iff,within_iff,Bool.false_eq_true,if_false]at h2;have:=h4.2 e2;exact⟨h2.1,by omega,this⟩
structure OkCase(c:Case):Prop where
 shop:OkShop c.shop
 many:c.owners.length=c.shop.heads.length
 own:∀n∈c.owners,0<=n/\n<=1
 five:c.claims.length<=5
 claim:∀x∈c.claims,OkClaim c.shop x
theorem okCase{c:Case}(h:(caseCheck c).2.2=0):OkCase c:=by
 simp only[caseCheck]at h;split at h
 ·rename_i h1;exact absurd h h1
 rename_i h1;split at h
 ·cases h
 rename_i h2;split at h
 ·rename_i he;exact absurd h (firstE_ne he)
 rename_i he;split at h
 ·cases h
 rename_i h3;split at h
 ·rename_i he';exact absurd h (firstE_ne he')
 rename_i he';refine⟨okShop (Decidable.not_not.1 h1),by omega,fun n hn=> ?_,by omega,fun x hx=> ?_⟩
 ·obtain⟨j,hj⟩:=firstE_none he n hn;split at hj
  ·rename_i hw;exact within_iff.1 hw
  ·cases hj
 ·obtain⟨j,hj⟩:=firstE_none he' x hx;exact okClaim hj
theorem OkCase.cl{c:Case}(h:OkCase c){i:Nat}(hi:i<c.claims.length):OkClaim c.shop (cl c i):=h.claim _ (getD_mem zClaim c.claims i hi)
theorem narrow_in{has n:Int}{x:Span}{a b:Int}(h:a<=x.lo/\x.hi<=b):a<=(narrow has n x).lo/\(narrow has n x).hi<=b:=by
 unfold narrow;split
 ·simp only;omega
 ·split
  ·simp only;omega
  ·exact h
theorem pow7{F:Nat}(h:F<=4):7^F<=2401:=by
 have:F=0\/F=1\/F=2\/F=3\/F=4:=by omega
 rcases this with rfl|rfl|rfl|rfl|rfl<;>decide
theorem caseSets_in{c:Case}{x:Int}(h:x∈caseSets c):0<=x/\x<32:=by
 simp only[caseSets,List.mem_map,List.mem_filter,List.mem_range]at h;obtain⟨n,⟨h1,_⟩,rfl⟩:=h;omega
theorem caseSets_le(c:Case):(caseSets c).length<=32:=by
 unfold caseSets;rw[List.length_map];exact Nat.le_trans (List.length_filter_le _ _) (by simp)
def indexErr(n:Int)(many:Int):Int:=if within n 0 (many-1)=true then 0 else 4
def asc(l:List Int):Bool:= !(List.range l.length).any fun i=>decide (1<=i)&&decide (l.getD i 0<=l.getD (i-1) 0)
def listErr(many:Int)(l:List Int):Int:=if(l.any fun n=> !within n 0 (many-1))=true then 4 else if asc l=true then 0 else 2
def truthsE(c:Case)(other:Int):List Int × Int:=
 if(caseCheck c).2.2≠0 then([],(caseCheck c).2.2)else if other≠0 then([],other)else if(caseSets c).length=0 then([],8)else(caseSets c,0)
def settled(sets:List Int)(i:Int):Int:=
 if(sets.countP fun s=>hasZ s i)=sets.length then 1 else if(sets.countP fun s=>hasZ s i)=0 then 2 else 0
def can(sets l:List Int):Bool:=sets.any fun s=>allZ s l
def holdsR(c:Case)(i:Int):Int × Int:=
 if(truthsE c (indexErr i c.claims.length)).2≠0 then(0,(truthsE c (indexErr i c.claims.length)).2)else(settled (caseSets c) i,0)
def togetherR(c:Case)(l:List Int):Bool × Int:=
 if(truthsE c (listErr c.claims.length l)).2≠0 then(false,(truthsE c (listErr c.claims.length l)).2)else(can (caseSets c) l,0)
def picks(below:Int):Nat->List (List Int)
 |0=>[[]]
 |n+1=>(picks below n).flatMap fun l=>(List.range (below-((if l.length=0 then-1 else l.getD (l.length-1) 0)+1)).toNat).map fun(k:Nat)=>l++ [(if l.length=0 then-1 else l.getD (l.length-1) 0)+1+(k:Int)]
def clashP(sets p:List Int):Bool:=can sets (p.take 1)&&(can sets (p.drop 1)&& !can sets p)
def clashR(c:Case):List (List Int) × Int:=
 if(truthsE c 0).2≠0 then([],(truthsE c 0).2)else((picks c.claims.length 2).filter (clashP (caseSets c)),0)
def others(k:Nat)(l:List Int):List Int:=((List.range k).filter fun(i:Nat)=> !hasN l (i:Int)).map fun(i:Nat)=>(i:Int)
def worth(c:Case)(l:List Int):Int:=l.foldl (fun n i=>n+(cl c i.toNat).worth) 0
def each(k:Nat)(some:List Int)(how:Int):List Int:=((List.range k).filter fun(i:Nat)=>settled some i==how).map fun(i:Nat)=>(i:Int)
def followR(c:Case)(l:List Int):List Int × Int:=
 if(truthsE c (listErr c.claims.length l)).2≠0 then([],(truthsE c (listErr c.claims.length l)).2)
 else if can (caseSets c) l=false then([],9)
 else(each c.claims.length ((caseSets c).filter fun s=>allZ s l) 1,0)
def manyZ(s:Int):Int:=(((List.range 5).filter fun(i:Nat)=>hasZ s i).length:Int)
def readC(x:Case)(hd ft az:Int):Case:={x with shop:={x.shop with heads:=x.shop.heads.set hd.toNat ⟨(x.shop.heads.getD hd.toNat zHead).name,(x.shop.heads.getD hd.toNat zHead).shows.set ft.toNat az⟩}}
def tstr:Ty ByteArray:=⟨1,fun s=>[.str s],ByteArray.empty⟩
def tlist{τ:Type}(E:Ty τ):Ty (List τ):=⟨1,fun l=>[E.lst l],[]⟩
def tSpan:Ty Span:=⟨2,fun x=>[.int .i64 x.lo,.int .i64 x.hi],zSpan⟩
def tMould:Ty Mould:=⟨3,fun x=>[.str x.name,.int .i64 x.casts,tSpan.lst x.lasts],zMould⟩
def tHead:Ty Head:=⟨2,fun x=>[.str x.name,tint.lst x.shows],zHead⟩
def tShop:Ty Shop:=⟨3,fun x=>[.int .i64 x.features,tMould.lst x.moulds,tHead.lst x.heads],⟨0,[],[]⟩⟩
def tClaim:Ty Claim:=⟨8,fun x=>[.int .i64 x.own,.int .i64 x.kind,.int .i64 x.a,.int .i64 x.b,.int .i64 x.mould,.int .i64 x.feature,.int .i64 x.number,.int .i64 x.worth],zClaim⟩
def tCase:Ty Case:=⟨5,fun x=>[.int .i64 x.shop.features,tMould.lst x.shop.moulds,tHead.lst x.shop.heads,tint.lst x.owners,tClaim.lst x.claims],⟨⟨0,[],[]⟩,[],[]⟩⟩
def tCast:Ty Cast:=⟨2,fun x=>[.int .i64 x.mould,.int .i64 x.number],zCast⟩
def tEntry:Ty Entry:=⟨2,fun x=>[.int .i64 x.head,.int .i64 x.feature],⟨0,0⟩⟩
@[simp] theorem z1:tint.zero=0:=rfl
@[simp] theorem z2:tMould.zero=zMould:=rfl
@[simp] theorem z3:tHead.zero=zHead:=rfl
@[simp] theorem z4:tSpan.zero=zSpan:=rfl
theorem z8:tClaim.zero=zClaim:=rfl
@[simp] theorem z5:tCast.zero=zCast:=rfl
theorem mx:Tryz.prog.follows .mixedOrders=true:=by kernel_rfl
theorem flatMap_get{τ:Type}(E:Ty τ)(hw:∀x,(E.cells x).length=E.w):∀(xs:List τ) (i j:Nat),i<xs.length->j<E.w->(xs.flatMap E.cells).getD (i*E.w+j) .undef=(E.cells (xs.getD i E.zero)).getD j .undef
 |[],i,j,hi,hj=>by simp at hi
 |x::xs,0,j,hi,hj=>by
  simp only[List.flatMap_cons,Nat.zero_mul,Nat.zero_add];rw[getD_append_left (by rw[hw];exact hj)];rfl
 |x::xs,i+1,j,hi,hj=>by
  simp only[List.flatMap_cons];rw[getD_append_right (by rw[hw,Nat.succ_mul];omega),hw,show(i+1)*E.w+j-E.w=i*E.w+j by rw[Nat.succ_mul];omega];rw[flatMap_get E hw xs i j (by simpa using hi) hj];rfl
theorem VLe.lit{τ:Type}(E:Ty τ)(xs:List τ){w n:Nat}{cs:List V}(hn:n=xs.length)(hc:xs.flatMap E.cells=cs)(hw:∀x,(E.cells x).length=E.w)(hww:w=E.w:=by rfl):VLe (.list w n (litC w n cs)) (E.lst xs):=by
 subst hww;subst hn;subst hc;exact VLe.list fun i j hi hj=>by rw[litC_eq hi,flatMap_get E hw xs i j hi hj];rfl
def rowsFn{τ:Type}(E:Ty τ)(f:Nat->τ):Nat->Nat->V:=fun i j=>(E.cells (f i)).getD j .undef
def upd{τ:Type}(f:Nat->τ)(i:Nat)(x:τ):Nat->τ:=fun j=>if j=i then x else f j
theorem tel_upd{τ:Type}(E:Ty τ)(f:Nat->τ)(i:Nat)(x:τ){n w:Nat}(vs:List V)(hv:vs=E.cells x)(hw:(E.cells x).length=w):∀r j,r<n->j<w->
  VLe ((fun r' j=>if r'=i/\0<=j/\j<0+vs.length then vs.getD (j-0) .undef else rowsFn E f r' j) r j) (rowsFn E (upd f i x) r j):=fun r j _ hj=>by
 subst hv;by_cases h:r=i
 ·subst h;simp only[Nat.zero_le,Nat.zero_add,true_and,hw,hj,if_true,Nat.sub_zero,rowsFn,upd];exact VLe.refl _
 ·simp only[h,false_and,if_false,rowsFn,upd];exact VLe.refl _
theorem tel_set{τ:Type}(E:Ty τ)(l:List τ)(i:Nat)(x:τ){n w:Nat}(vs:List V)(hv:vs=E.cells x)(hw:(E.cells x).length=w)(hn:n=l.length):∀r j,r<n->j<w->
  VLe ((fun r' j=>if r'=i/\0<=j/\j<0+vs.length then vs.getD (j-0) .undef else rowsOf E l r' j) r j) (rowsOf E (l.set i x) r j):=fun r j hr hj=>by
 subst hv;subst hn;by_cases h:r=i
 ·subst h;simp only[Nat.zero_le,Nat.zero_add,true_and,hw,hj,if_true,Nat.sub_zero,rowsOf,gE,List.getElem?_set_self hr,Option.getD_some];exact VLe.refl _
 ·simp only[h,false_and,if_false,rowsOf,gE,sN (Ne.symm h)];exact VLe.refl _
def regOf(id:Nat):Code->Option (Array Oper)
 |.region j ops _=>if j=id then some ops else none
 |.seq a b=>match regOf id a with|some o=>some o|none=>regOf id b
 |.cond _ a b=>match regOf id a with|some o=>some o|none=>regOf id b
 |.block _ a=>regOf id a
 |.scope a=>regOf id a
 |.loop a=>regOf id a
 |.rangeFunc _ _ a b=>match regOf id a with|some o=>some o|none=>regOf id b
 |_=>none
def opAt(fn:Func)(id i:Nat):Op:=match regOf id (fn.body.getD .skip)with|some ops=>(match ops[i]? with|some o=>o.op|none=>.move (.tmp 0))|none=>.move (.tmp 0)
def rngOf:Code->Option Code
 |.seq a b=>match rngOf a with|some o=>some o|none=>rngOf b
 |.cond _ a b=>match rngOf a with|some o=>some o|none=>rngOf b
 |.block _ a=>rngOf a
 |.scope a=>rngOf a
 |.loop a=>rngOf a
 |.rangeFunc g ps a b=>some (.rangeFunc g ps a b)
 |_=>none
def rangeOf(fn:Func):Code:=(rngOf (fn.body.getD .skip)).getD .skip
theorem bodyQ_mono{P:Program}{fn:Func}{post post':V->Prop}{e:Exit}{S:St}(h:bodyQ P fn post e S)(hp:∀v,post v->post' v):bodyQ P fn post' e S:=by
 obtain⟨h1,h2,v,u,h3,h4,h5⟩:=h;exact⟨h1,h2,v,u,h3,h4,hp u h5⟩
theorem PCalls.enters{P:Program}{f:FuncId}{fn:Func}{c:Code}(hf:P.funcs[f]? =some fn)(hb:fn.body=some c)(hn:(fn.name== "runtime.NumGoroutine")=false):∀xs w,(callFunc f xs).run P w=.ok (.enter f xs) w:=by
 have hn':¬fn.name= "runtime.NumGoroutine" :=by simpa using hn
 intro xs w;simp[callFunc,hf,hn',hb]
inductive Has:V->Nat->Prop where
 |list {w n c}:Has (.list w n c) n
 |agg {vs n} (j:Nat) (h:Has (vs.getD j .undef) n) (hj:j<vs.length):Has (.agg vs) n
 |row {w n c m} (i j:Nat) (hi:i<n) (hj:j<w) (h:Has (c i j) m):Has (.list w n c) m
 |cref {n c m} (j:Nat) (hj:j<n) (h:Has (c j) m):Has (.cref n c) m
theorem Has.le{v:V}{n:Nat}(h:Has v n):∀ {G:Kept} {β:Homes} {x:Value},Rel G β v x->n<=maxn:=by
 induction h with
 |list=>intro G β x hx;cases hx with|list0=>exact Nat.zero_le _|list _ _ _ hn _=>exact hn
 |agg j _ hj ih=>intro G β x hx;cases hx with|agg hs hr=>exact ih (hr j hj)
 |row i j hi hj _ ih=>intro G β x hx;cases hx with|list0=>omega|list _ _ _ _ hc=>exact ih (hc i j hi hj)
 |cref j hj _ ih=>intro G β x hx;cases hx with|cref _ _ hc=>exact ih (hc j hj)
theorem PCalls.assume{P:Program}{f:FuncId}{args:List V}{post:V->Prop}(hc:∀xs w,(callFunc f xs).run P w=.ok (.enter f xs) w){n:Nat}(j:Nat)(hj:j<args.length)(hh:Has (args.getD j .undef) n)(h:n<=maxn->PCalls P f args post):PCalls P f args post:=
 ⟨hc,fun G w xs hk hl hr=>(h (hh.le (hr j hj))).2 G w xs hk hl hr⟩
theorem PCalls.assumeAll{P:Program}{f:FuncId}{args:List V}{post:V->Prop}{Q:Prop}(hc:∀xs w,(callFunc f xs).run P w=.ok (.enter f xs) w)(j:Nat)(hj:j<args.length)(hq:∀(G:Kept) (x:Value),Rel G [] (args.getD j .undef) x->Q)(h:Q->PCalls P f args post):PCalls P f args post:=
 ⟨hc,fun G w xs hk hl hr=>(h (hq G _ (hr j hj))).2 G w xs hk hl hr⟩
structure Lens(s:Shop):Prop where
 m:s.moulds.length<=maxn
 h:s.heads.length<=maxn
 l:∀x∈s.moulds,x.lasts.length<=maxn
 s:∀x∈s.heads,x.shows.length<=maxn
theorem mem_getD{τ:Type}{l:List τ}{x:τ}(d:τ)(h:x∈l):∃i,i<l.length/\l.getD i d=x:=by
 obtain⟨i,hi,e⟩:=List.getElem_of_mem h;exact⟨i,hi,by simp[gE,hi,e]⟩
theorem lens_moulds{G:Kept}{β:Homes}{l:List Mould}{x:Value}(h:Rel G β (tMould.lst l) x):l.length<=maxn/\∀y∈l,y.lasts.length<=maxn:=by
 refine⟨Has.list.le h,fun y hy=> ?_⟩;obtain⟨i,hi,e⟩:=mem_getD tMould.zero hy;refine Has.le (Has.row i 2 hi (by decide) ?_) h;simp only[rowsOf,e];exact .list
theorem lens_heads{G:Kept}{β:Homes}{l:List Head}{x:Value}(h:Rel G β (tHead.lst l) x):l.length<=maxn/\∀y∈l,y.shows.length<=maxn:=by
 refine⟨Has.list.le h,fun y hy=> ?_⟩;obtain⟨i,hi,e⟩:=mem_getD tHead.zero hy;refine Has.le (Has.row i 1 hi (by decide) ?_) h;simp only[rowsOf,e];exact .list
theorem lens_shop{G:Kept}{x:Value}{s:Shop}{rest:List V}(h:Rel G [] (.agg (tShop.cells s++rest)) x):Lens s:=by
 cases h with
 |agg hs hr=>
  have h1:=lens_moulds (hr 1 (by simp[tShop]));have h2:=lens_heads (hr 2 (by simp[tShop]));exact⟨h1.1,h2.1,h1.2,h2.2⟩
theorem inR64{n:Int}(h1: -9223372036854775808<=n)(h2:n<=9223372036854775807):inR .i64 n=true:=by
 have a:IntKind.min .i64= -9223372036854775808:=by rfl
 have b:IntKind.max .i64=9223372036854775807:=by rfl
 simp only[inR,a,b,Bool.and_eq_true,decide_eq_true_eq];exact⟨h1,h2⟩
theorem inRi{i n:Nat}(hi:i<n)(hn:n<=maxn):inR .i64 ((i:Int)+1)=true:=by
 have:n<=281474976710656:=hn;exact inR64 (by omega) (by omega)
theorem SS:(∀ {α:Type} {p:α->Prop} {a:α} {l:List α},(∀x,x∈a::l->p x)↔p a/\∀x,x∈l->p x)/\(∀ {α:Type} {a:α},¬a∈([]:List α))/\(∀a:Prop,(False->a)↔True)/\(∀ {α:Prop},(True->α)↔α)/\
  (∀α:Prop,(α->True)=True)/\(∀α:Type,(α->True)=True)/\(∀p:Prop,(p/\True)=p)/\(∀p:Prop,(True/\p)=p)/\(∀ {p:Prop} [Decidable p],(decide p=true)=p)/\(∀ {p:Prop} {_x:Decidable p},decide p=false↔¬p)/\
  (∀ {a b:Bool},(!a)=b↔a= !b)/\(!true)=false/\(!false)=true/\(∀ {α:Type} [BEq α] [LawfulBEq α] {a b:α},(a==b)=true↔a=b)/\(∀ {α:Type} [BEq α] [LawfulBEq α] {a b:α},(a==b)=false↔a≠b)/\
  (∀ {α:Type} [BEq α] [LawfulBEq α] {a b:α},(a !=b)=true↔a≠b)/\(∀ {α:Type} [BEq α] [LawfulBEq α] {a b:α},(a !=b)=false↔a=b)/\(∀a b:Bool,((a&&b)=true)=(a=true/\b=true))/\(true=false)=False/\(false=true)=False/\
  (∀a:Int,¬a<a)/\(∀ {n m:Nat},(n:Int)<m↔n<m)/\(¬False)=True/\(¬True)=False/\(∀n:Nat,(n:Int).toNat=n)/\(∀n:Nat,(0:Int)<=n)/\(∀ {α:Type} (a b:α),(a≠b)=¬a=b)/\(∀ {α:Prop} (a b:α),(a≠b)=¬a=b)/\
  (∀ {α:Type} [LT α] {x y:α},x>y↔y<x)/\(∀ {α:Type} [LE α] {x y:α},x≥y↔y<=x)/\(∀ {n:Nat},(n:Int)=0↔n=0):=
 ⟨List.forall_mem_cons,List.not_mem_nil,false_imp_iff,true_imp_iff,implies_true,implies_true,and_true,true_and,decide_eq_true_eq,decide_eq_false_iff_not,Bool.not_eq_eq_eq_not,Bool.not_true,Bool.not_false,beq_iff_eq,beq_eq_false_iff_ne,bne_iff_ne,bne_eq_false_iff_eq,Bool.and_eq_true,Bool.true_eq_false,Bool.false_eq_true,Int.lt_irrefl,Int.ofNat_lt,not_false_eq_true,not_true_eq_false,Int.toNat_natCast,Int.natCast_nonneg,ne_eq,ne_eq,gt_iff_lt,ge_iff_le,Int.natCast_eq_zero⟩
abbrev fF(n:Go.FuncId):V:=.func (.func n) [] []
abbrev iI(n:Int):V:=.int .i64 n
abbrev uU:V:=.undef
abbrev ud(n:Nat):List V:=List.replicate n .undef
abbrev rR(v:V):V:=.cref 1 fun q=>([v]:List V).getD q .undef
abbrev cC(x:Case):List V:=[.int .i64 x.shop.features,tMould.lst x.shop.moulds,tHead.lst x.shop.heads,tint.lst x.owners,tClaim.lst x.claims]
abbrev fG(n:Go.FuncId)(cs:List V):V:=.func (.func n) [] cs
abbrev Sm{α ρ:Type}(m:Nat)(g:α->List Item × St)(T:α->Tr α ρ)(n:ρ->Go.Exit × St):Prop:=∀a,∃k,runG Tryz.prog m k (startOf (g a).1) (g a).2 ((T a).toD g n)=some ((T a).toD g n)
theorem PCalls.wq{α ρ:Type}{f:Go.FuncId}{fn:Go.Func}{c:Go.Code}{args:List V}{post:V->Prop}{T:α->Tr α ρ}{g:α->List Item × St}{n:ρ->Go.Exit × St}{v:ρ->V}{e:α}(hf:Tryz.prog.funcs[f]? =some fn)(s:Sm 0 g T n)
  (q:∀r,bodyQ Tryz.prog fn (·=v r) (n r).1 (n r).2) (h:WP Tryz.prog ⟨none,0⟩ T (Ends' fun r=>post (v r)) e) (he:g e=([.code c],{t:=args++List.replicate (fn.ntmps-args.length) .undef,h:=[],d:=[]}):=by rfl)
  (hb:fn.body=some c:=by kernel_rfl) (hn:(fn.name== "runtime.NumGoroutine")=false:=by kernel_rfl):PCalls Tryz.prog f args post:=
 PCalls.wp mx hf hb hn T g n e he s h fun r hr=>bodyQ_mono (q r) fun u hu=>by subst hu;exact hr
theorem bq{P:Go.Program}{fn:Go.Func}{e:Go.Exit}{S:St}(v:V)(hr:resultV P fn {S with h:=shut S.d S.h}=some v)(hd:S.d=[]:=by rfl)(he:e=Go.Exit.ret:=by rfl)(hi:v.imm=true:=by rfl):bodyQ P fn (·=v) e S:=
 ⟨.inr he,by rw[hd];exact List.nodup_nil,v,v,hr,.imm hi,rfl⟩
abbrev PC(f:Go.FuncId)(args:List V)(post:V->Prop):Prop:=PCalls Tryz.prog f args post
abbrev WQ{α ρ:Type}(T:α->Tr α ρ)(v:ρ->V)(post:V->Prop)(e:α):Prop:=WP Tryz.prog ⟨none,0⟩ T (Ends' fun r=>post (v r)) e
abbrev bd(f:Go.Func)(a:List V)(n:Nat):List Item × St:=([.code (f.body.getD .skip)],⟨a++List.replicate n .undef,[],[]⟩)
end Go.Proofs.YtdamoemndifpmaaGreat
namespace Go.Proofs.YtdamoemndifpmaaGreat
open Ab Go
def tFour:Ty (Nat->Span):=⟨8,fun F=>[.int .i64 (F 0).lo,.int .i64 (F 0).hi,.int .i64 (F 1).lo,.int .i64 (F 1).hi,.int .i64 (F 2).lo,.int .i64 (F 2).hi,.int .i64 (F 3).lo,.int .i64 (F 3).hi],fun _=>⟨0,0⟩⟩
structure MTru where
 casts:Nat->Cast
 lasts:Nat->Nat->Span
def tMTru:Ty MTru:=⟨24,fun t=>[.int .i64 (t.casts 0).mould,.int .i64 (t.casts 0).number,.int .i64 (t.casts 1).mould,.int .i64 (t.casts 1).number,.int .i64 (t.casts 2).mould,.int .i64 (t.casts 2).number,.int .i64 (t.casts 3).mould,.int .i64 (t.casts 3).number,
 .int .i64 (t.lasts 0 0).lo,.int .i64 (t.lasts 0 0).hi,.int .i64 (t.lasts 0 1).lo,.int .i64 (t.lasts 0 1).hi,.int .i64 (t.lasts 0 2).lo,.int .i64 (t.lasts 0 2).hi,.int .i64 (t.lasts 0 3).lo,.int .i64 (t.lasts 0 3).hi,
 .int .i64 (t.lasts 1 0).lo,.int .i64 (t.lasts 1 0).hi,.int .i64 (t.lasts 1 1).lo,.int .i64 (t.lasts 1 1).hi,.int .i64 (t.lasts 1 2).lo,.int .i64 (t.lasts 1 2).hi,.int .i64 (t.lasts 1 3).lo,.int .i64 (t.lasts 1 3).hi],⟨fun _=>⟨0,0⟩,fun _ _=>⟨0,0⟩⟩⟩
def lkS(s:Shop)(L:Nat->Nat->Span):V:=.cref 19 fun q=>([.int .i64 s.features,tMould.lst s.moulds,tHead.lst s.heads,.int .i64 (L 0 0).lo,.int .i64 (L 0 0).hi,.int .i64 (L 0 1).lo,.int .i64 (L 0 1).hi,.int .i64 (L 0 2).lo,.int .i64 (L 0 2).hi,.int .i64 (L 0 3).lo,.int .i64 (L 0 3).hi,.int .i64 (L 1 0).lo,.int .i64 (L 1 0).hi,.int .i64 (L 1 1).lo,.int .i64 (L 1 1).hi,.int .i64 (L 1 2).lo,.int .i64 (L 1 2).hi,.int .i64 (L 1 3).lo,.int .i64 (L 1 3).hi]:List V).getD q .undef
def narS(s:Shop)(hd:Int)(c:Cast)(f:Nat)(p:(Nat->Nat->Span) × Bool):(Nat->Nat->Span) × Bool:=
 if p.2=true then
  (upd p.1 c.mould.toNat (upd (p.1 c.mould.toNat) f (narrow ((s.heads.getD hd.toNat zHead).shows.getD f 0) c.number (p.1 c.mould.toNat f))),
   !decide ((narrow ((s.heads.getD hd.toNat zHead).shows.getD f 0) c.number (p.1 c.mould.toNat f)).lo>(narrow ((s.heads.getD hd.toNat zHead).shows.getD f 0) c.number (p.1 c.mould.toNat f)).hi))
 else p
def narR(s:Shop)(L:Nat->Nat->Span)(hd:Int)(c:Cast)(n:Nat):(Nat->Nat->Span) × Bool:=natF (narS s hd c) (L,true) n
theorem upd_same{τ:Type}(f:Nat->τ)(i:Nat)(x:τ):upd f i x i=x:=if_pos rfl
theorem upd_self{τ:Type}(f:Nat->τ)(i:Nat):upd f i (f i)=f:=by
 funext j;unfold upd;split
 ·rename_i h;rw[h]
 ·rfl
theorem narR_stop(s:Shop)(L:Nat->Nat->Span)(hd:Int)(c:Cast){k:Nat}(h:(narR s L hd c k).2=false):∀n,k<=n->narR s L hd c n=narR s L hd c k
 |0,hk=>by
        obtain rfl:k=0:=by omega
        rfl
 |n+1,hk=>by
  rcases Nat.lt_or_ge n k with q|q
  ·obtain rfl:k=n+1:=by omega
   rfl
  ·have e:narR s L hd c (n+1)=narS s hd c n (narR s L hd c n):=rfl;rw[e,narR_stop s L hd c h n q];unfold narS;rw[if_neg (by rw[h];simp)]
end Go.Proofs.YtdamoemndifpmaaGreat
namespace Go.Proofs
open Go.Shelf
def Tryz.lays189_ren:Go.Shelf.Ren:=⟨fun|189=>145|125=>151|257=>188|128=>201|129=>202|294=>206|295=>207|296=>208|297=>209|298=>210|299=>211|216=>212|300=>213|301=>214|328=>221|329=>217|330=>218|331=>222|332=>223|215=>152|343=>225|n=>n,fun|28=>26|3=>3|46=>123|0=>0|51=>181|53=>183|4=>4|183=>227|182=>226|131=>231|5=>5|9=>9|218=>243|222=>247|228=>251|229=>252|n=>n,fun|n=>n⟩
theorem Tryz.lays189:Go.Proofs.Lays.n189 Tryz.prog Tryz.lays189_ren:={
 mixed:=by kernel_rfl
 f125:=Tryz.func151.trans (congrArg some (by kernel_rfl))
 f128:=Tryz.func201.trans (congrArg some (by kernel_rfl))
 f129:=Tryz.func202.trans (congrArg some (by kernel_rfl))
 f189:=Tryz.func145.trans (congrArg some (by kernel_rfl))
 f215:=Tryz.func152.trans (congrArg some (by kernel_rfl))
 f216:=Tryz.func212.trans (congrArg some (by kernel_rfl))
 f257:=Tryz.func188.trans (congrArg some (by kernel_rfl))
 f294:=Tryz.func206.trans (congrArg some (by kernel_rfl))
 f295:=Tryz.func207.trans (congrArg some (by kernel_rfl))
 f296:=Tryz.func208.trans (congrArg some (by kernel_rfl))
 f297:=Tryz.func209.trans (congrArg some (by kernel_rfl))
 f298:=Tryz.func210.trans (congrArg some (by kernel_rfl))
 f299:=Tryz.func211.trans (congrArg some (by kernel_rfl))
 f300:=Tryz.func213.trans (congrArg some (by kernel_rfl))
 f301:=Tryz.func214.trans (congrArg some (by kernel_rfl))
 f328:=Tryz.func221.trans (congrArg some (by kernel_rfl))
 f329:=Tryz.func217.trans (congrArg some (by kernel_rfl))
 f330:=Tryz.func218.trans (congrArg some (by kernel_rfl))
 f331:=Tryz.func222.trans (congrArg some (by kernel_rfl))
 f332:=Tryz.func223.trans (congrArg some (by kernel_rfl))
 f343:=Tryz.func225.trans (congrArg some (by kernel_rfl))
 t0:=Tryz.underlying0
 a0:=Tryz.isAgg0
 z0:=Tryz.sizeOf0
 v0:=Tryz.zeroValue0
 t3:=Tryz.underlying3
 a3:=Tryz.isAgg3
 z3:=Tryz.sizeOf3
 v3:=Tryz.zeroValue3
 t4:=Tryz.underlying4
 a4:=Tryz.isAgg4
 z4:=Tryz.sizeOf4
 v4:=Tryz.zeroValue4
 t5:=Tryz.underlying5
 a5:=Tryz.isAgg5
 z5:=Tryz.sizeOf5
 v5:=Tryz.zeroValue5
 t9:=Tryz.underlying9
 a9:=Tryz.isAgg9
 z9:=Tryz.sizeOf9
 v9:=Tryz.zeroValue9
 t28:=Tryz.underlying26
 a28:=Tryz.isAgg26
 z28:=Tryz.sizeOf26
 v28:=Tryz.zeroValue26
 t46:=Tryz.underlying123
 a46:=Tryz.isAgg123
 z46:=Tryz.sizeOf123
 v46:=Tryz.zeroValue123
 t51:=Tryz.underlying181
 a51:=Tryz.isAgg181
 z51:=Tryz.sizeOf181
 v51:=Tryz.zeroValue181
 t53:=Tryz.underlying183
 a53:=Tryz.isAgg183
 z53:=Tryz.sizeOf183
 v53:=Tryz.zeroValue183
 t131:=Tryz.underlying231
 a131:=Tryz.isAgg231
 z131:=Tryz.sizeOf231
 v131:=Tryz.zeroValue231
 t182:=Tryz.underlying226
 a182:=Tryz.isAgg226
 z182:=Tryz.sizeOf226
 v182:=Tryz.zeroValue226
 t183:=Tryz.underlying227
 a183:=Tryz.isAgg227
 z183:=Tryz.sizeOf227
 v183:=Tryz.zeroValue227
 t218:=Tryz.underlying243
 a218:=Tryz.isAgg243
 z218:=Tryz.sizeOf243
 v218:=Tryz.zeroValue243
 t222:=Tryz.underlying247
 a222:=Tryz.isAgg247
 z222:=Tryz.sizeOf247
 v222:=Tryz.zeroValue247
 t228:=Tryz.underlying251
 a228:=Tryz.isAgg251
 z228:=Tryz.sizeOf251
 v228:=Tryz.zeroValue251
 t229:=Tryz.underlying252
 a229:=Tryz.isAgg252
 z229:=Tryz.sizeOf252
 v229:=Tryz.zeroValue252}
open Go.Sort Go.RowKit in
theorem Tryz.slices_Sort_int(blk off cap:Nat)(zs:List Int)(w:World)(hH:Holds (Value.int .i64) w blk off zs.toArray)(hblk:blk<w.heap.size)(hsz:zs.length<4611686018427387904):
  Calls Tryz.prog 145 #[.slice (some ⟨blk,off,none⟩) zs.length cap] w fun e w'=>
   e=.returned (.tuple #[])/\∃n os,w'=grow (putRow (Value.int .i64) (Sort.ahead w n) blk off (zs.mergeSort fun x y=>decide (x<=y)).toArray) os:=Any.slices_Sort_int Tryz.lays189 blk off cap zs w hH hblk hsz
def Tryz.laysNm220_ren:Go.Shelf.Ren:=⟨fun|20=>187|n=>n,fun|22=>26|3=>3|4=>4|0=>0|n=>n,fun|n=>n⟩
theorem Tryz.laysNm220:Go.Proofs.Lays2.n20 Tryz.prog Tryz.laysNm220_ren:={
 mixed:=by kernel_rfl
 f20:=Tryz.func187.trans (congrArg some (by kernel_rfl))
 t0:=Tryz.underlying0
 a0:=Tryz.isAgg0
 z0:=Tryz.sizeOf0
 v0:=Tryz.zeroValue0
 t3:=Tryz.underlying3
 a3:=Tryz.isAgg3
 z3:=Tryz.sizeOf3
 v3:=Tryz.zeroValue3
 t4:=Tryz.underlying4
 a4:=Tryz.isAgg4
 z4:=Tryz.sizeOf4
 v4:=Tryz.zeroValue4
 t22:=Tryz.underlying26
 a22:=Tryz.isAgg26
 z22:=Tryz.sizeOf26
 v22:=Tryz.zeroValue26
 i3:=by kernel_rfl}
open Go.RowKit Go.Lib Go.Sort in
theorem Tryz.slices_Compact_int_arr(blk off cap:Nat)(d:Array Int)(w:World)(hH:Holds encI w blk off d)(hsz:d.size<=9223372036854775807)(hcap:d.size<=cap):
  Calls Tryz.prog 187 #[.slice (some ⟨blk,off,none⟩) d.size cap] w fun e w'=>e=.returned (.slice (some ⟨blk,off,none⟩) (compactUpTo d d.size).length cap)/\∃q,w'=putRow encI (Sort.ahead w q) blk off (compactUpTo d d.size++List.replicate (d.size-(compactUpTo d d.size).length) 0).toArray:=Any.slices_Compact_int_arr Tryz.laysNm220 blk off cap d w hH hsz hcap
open Go.RowKit Go.Lib Go.Sort in
theorem Tryz.slices_Compact_int(blk off cap:Nat)(zs:List Int)(w:World)(hH:Holds (Value.int .i64) w blk off zs.toArray)(hsz:zs.length<=9223372036854775807)(hcap:zs.length<=cap):
  Calls Tryz.prog 187 #[.slice (some ⟨blk,off,none⟩) zs.length cap] w fun e w'=>e=.returned (.slice (some ⟨blk,off,none⟩) (Lib.compact zs).length cap)/\∃q,w'=putRow (Value.int .i64) (Sort.ahead w q) blk off (Lib.compact zs++List.replicate (zs.length-(Lib.compact zs).length) 0).toArray:=Any.slices_Compact_int Tryz.laysNm220 blk off cap zs w hH hsz hcap
open Go.RowKit Go.Lib Go.Sort in
theorem Tryz.slices_Compact_int_empty(a:Option Addr)(cap:Nat)(w:World):
  Calls Tryz.prog 187 #[.slice a 0 cap] w fun e w'=>e=.returned (.slice a 0 cap)/\w'=w:=Any.slices_Compact_int_empty Tryz.laysNm220 a cap w
open Go.RowKit Go.Sort in
theorem Tryz.slices_Sort_int_none(p:Option Addr)(cap:Nat)(w:World):
  Calls Tryz.prog 145 #[.slice p 0 cap] w fun e w'=>e=.returned (.tuple #[])/\w'=w:=Any.slices_Sort_int_none Tryz.lays189 p cap w
end Go.Proofs
namespace Ab
open Go Go.Sort
def RowI(c:Nat->Nat->V)(l:List Int):Prop:=∀r,r<l.length->c r 0=.int .i64 (l.getD r 0)
theorem row_holds{β:Homes}{G K:Kept}{h:List Blk}{w:World}(r:RH β G K h w){i:Nat}{e:TypeId}{l:List Int}{c:Nat->Nat->V}(hi:h[i]? =some (.rows e 1 l.length c))(hc:RowI c l){x:Home}(hb:β[i]? =some (.lie x)):
  Holds (Value.int .i64) w x.b 0 l.toArray/\x.b<w.heap.size/\l.length<=x.cap/\l.length<=maxn:=by
 have hB:=r.blk i _ hi;rw[hb]at hB;obtain⟨h0,hn,hcap,cs,h1,h2,h3,h4,h5⟩:=hB;refine⟨fun j hj=> ?_,(Array.getElem?_eq_some_iff.1 h1).1,h3,h4⟩;have hj':j<l.length:=by simpa using hj
 have hv:=h5 j 0 hj' (by omega);rw[hc j hj',Nat.mul_one,Nat.add_zero]at hv;have hsz:j<cs.size:=by rw[h2,Nat.mul_one];omega
 have hx:cs[j]? =some (.int .i64 (l.getD j 0)):=by
  rw[Array.getElem?_eq_getElem hsz];rw[aG,Array.getElem?_eq_getElem hsz,Option.getD_some]at hv;generalize cs[j]=v at hv
  cases hv;rfl
 refine⟨?_,by simp[World.frozen?,h1]⟩;simp only[World.cell?,h1,Nat.zero_add];simp only[Option.isSome_none,Bool.false_eq_true,if_false];rw[hx];simp[gE,hj']
theorem row_put{β:Homes}{G K:Kept}{h:List Blk}{w:World}(r:RH β G K h w){i:Nat}{e:TypeId}{n m:Nat}{c c':Nat->Nat->V}(hi:h[i]? =some (.rows e 1 n c)){x:Home}(hb:β[i]? =some (.lie x)){d:List Int}{q:Nat}{os:Array Obj}(hd:d.length=n)(hm:m<=n)
  (hc:∀r,r<m->c' r 0=.int .i64 (d.getD r 0)):RH β G K (h.set i (.rows e 1 m c')) (grow (putRow (Value.int .i64) (Sort.ahead w q) x.b 0 d.toArray) os):=by
 have hB:=r.blk i _ hi;rw[hb]at hB;obtain⟨h0,hn,hcap,cs,h1,h2,h3,h4,h5⟩:=hB;have hlt:=(Array.getElem?_eq_some_iff.1 h1).1;have hsz:(putRow (Value.int .i64) (Sort.ahead w q) x.b 0 d.toArray).heap.size=w.heap.size:=by simp[putRow,mapBlock]
 have hnew:(putRow (Value.int .i64) (Sort.ahead w q) x.b 0 d.toArray).heap[x.b]? =some (.cells (putCells (Value.int .i64) 0 d.toArray cs) e (0,0)):=by
  simp[putRow,mapBlock,Sort.ahead,Array.getElem?_modify,h1,onCells]
 have hold:∀b,b≠x.b->(putRow (Value.int .i64) (Sort.ahead w q) x.b 0 d.toArray).heap[b]? =w.heap[b]? :=fun b hne=>by
  simp[putRow,mapBlock,Sort.ahead,Array.getElem?_modify,Ne.symm hne]
 refine RH.congr (w:=putRow (Value.int .i64) (Sort.ahead w q) x.b 0 d.toArray) ?_ (fun b hb=>heap_grow_old _ _ hb) (by simp) ⟨rfl,rfl,rfl,Nat.le_refl _⟩;refine r.write (hm:=⟨rfl,rfl,rfl,Nat.le_add_right _ _⟩) hi (by simp) hb hold hsz ⟨h0,hn,hcap,_,hnew,by simp[putCells,h2],by omega,by omega,fun j k hj hk=> ?_⟩;have hk0:k=0:=by omega
 subst hk0;rw[hc j hj,Nat.mul_one,Nat.add_zero];have hjs:j<cs.size:=by rw[h2,Nat.mul_one];omega
 have hjd:j<d.length:=by omega
 have:(putCells (Value.int .i64) 0 d.toArray cs).getD j Go.undef=.int .i64 (d.getD j 0):=by
  simp[putCells,aG,hjs,hjd,gE]
 rw[this];exact .int _ _
def sortZ(l:List Int):List Int:=l.mergeSort fun x y=>decide (x<=y)
theorem sortZ_len(l:List Int):(sortZ l).length=l.length:=List.length_mergeSort l
theorem slice_inv{G:Kept}{β:Homes}{i n:Nat}{v:Value}(h:Rel G β (.row i n) v):(∃(x:Home) (cap:Nat),β[i]? =some (.lie x)/\v=.slice (some ⟨x.b,0,none⟩) n cap/\n<=cap/\cap<=x.cap)\/(n=0/\β[i]? =some .nil/\∃a,v=.slice a 0 0):=by
 cases h with
 |row hi hn hc hm=>exact .inl ⟨_,_,hi,rfl,hn,hc⟩
 |row0 hi=>exact .inr ⟨rfl,hi,_,rfl⟩
section
variable {P:Program} {f:FuncId} {e:TypeId} {i:Nat} {l:List Int} {c c':Nat->Nat->V} {h:List Blk}
theorem arg1{xs:Array Value}{β:Homes}{G:Kept}{v:V}(hl:([v]:List V).length=xs.size)(hr:∀j,j<([v]:List V).length->Rel G β (([v]:List V).getD j .undef) (xs.getD j Go.undef)):∃x,xs= #[x]/\Rel G β v x:=by
 obtain⟨x,rfl⟩:∃x,xs= #[x]:=by
  obtain⟨ys⟩:=xs
  match ys,hl with
  |[y],_=>exact⟨y,rfl⟩
 exact⟨x,rfl,by simpa using hr 0 (by simp)⟩
theorem HCalls.sort(he:∀xs w,(callFunc f xs).run P w=.ok (.enter f xs) w)
  (h1:∀(blk off cap:Nat) (zs:List Int) (w:World),Holds (Value.int .i64) w blk off zs.toArray->blk<w.heap.size->zs.length<4611686018427387904->Calls P f #[.slice (some ⟨blk,off,none⟩) zs.length cap] w fun e w'=>
   e=.returned (.tuple #[])/\∃n os,w'=grow (putRow (Value.int .i64) (Sort.ahead w n) blk off (zs.mergeSort fun x y=>decide (x<=y)).toArray) os)
  (h0:∀(p:Option Addr) (cap:Nat) (w:World),Calls P f #[.slice p 0 cap] w fun e w'=>e=.returned (.tuple #[])/\w'=w)
  (hi:h[i]? =some (.rows e 1 l.length c)) (hc:RowI c l) (hc':RowI c' (sortZ l)):HCalls P f [.row i l.length] (.tuple []) h (h.set i (.rows e 1 l.length c')):=by
 refine⟨he,fun β G K w xs r hl hr=> ?_⟩;obtain⟨v,rfl,hv⟩:=arg1 hl hr;rcases slice_inv hv with⟨x,cap,hb,rfl,hn,hcap⟩|⟨hn,hb,a,rfl⟩
 ·obtain⟨g1,g2,g3,g4⟩:=row_holds r hi hc hb;refine(h1 x.b 0 cap l w g1 g2 (by unfold maxn at g4;omega)).mono ?_;rintro e' w' ⟨rfl,n,os,rfl⟩
  refine⟨_,β,G,K,rfl,Homes.le_refl _,G.ext_refl K,K.le_refl,row_put r hi hb (sortZ_len l) (Nat.le_refl _) (fun j hj=>hc' j (by rw[sortZ_len];exact hj)),.tuple rfl fun j hj=>absurd hj (Nat.not_lt_zero _)⟩
 ·refine(h0 a 0 w).mono ?_;rintro e' w' ⟨rfl,rfl⟩
  have hB:=r.blk i _ hi;rw[hb]at hB;refine⟨_,β,G,K,rfl,Homes.le_refl _,G.ext_refl K,K.le_refl,?_,.tuple rfl fun j hj=>absurd hj (Nat.not_lt_zero _)⟩;obtain⟨hB1,hB2⟩:l.length=0/\0<1:=hB;exact r.swap hi (by simp) rfl (by rw[hb];exact⟨hB1,hB2⟩)
theorem compact_len(l:List Int):(Lib.compact l).length<=l.length:=by
 unfold Lib.compact Lib.compactUpTo;rw[List.length_map];exact Nat.le_trans (List.length_filter_le _ _) (by simp)
def padZ(l:List Int)(n:Nat):List Int:=l++List.replicate (n-l.length) 0
theorem padZ_len{l:List Int}{n:Nat}(h:l.length<=n):(padZ l n).length=n:=by simp[padZ];omega
theorem HCalls.compact(he:∀xs w,(callFunc f xs).run P w=.ok (.enter f xs) w)
  (h1:∀(blk off cap:Nat) (zs:List Int) (w:World),Holds (Value.int .i64) w blk off zs.toArray->zs.length<=9223372036854775807->zs.length<=cap->Calls P f #[.slice (some ⟨blk,off,none⟩) zs.length cap] w fun e w'=>
   e=.returned (.slice (some ⟨blk,off,none⟩) (Lib.compact zs).length cap)/\∃q,w'=putRow (Value.int .i64) (Sort.ahead w q) blk off (Lib.compact zs++List.replicate (zs.length-(Lib.compact zs).length) 0).toArray)
  (h0:∀(a:Option Addr) (cap:Nat) (w:World),Calls P f #[.slice a 0 cap] w fun e w'=>e=.returned (.slice a 0 cap)/\w'=w)
  (hi:h[i]? =some (.rows e 1 l.length c)) (hc:RowI c l) (hc':RowI c' (padZ (Lib.compact l) l.length)):HCalls P f [.row i l.length] (.row i (Lib.compact l).length) h (h.set i (.rows e 1 l.length c')):=by
 refine⟨he,fun β G K w xs r hl hr=> ?_⟩;obtain⟨v,rfl,hv⟩:=arg1 hl hr;have hcl:=compact_len l;rcases slice_inv hv with⟨x,cap,hb,rfl,hn,hcap⟩|⟨hn,hb,a,rfl⟩
 ·obtain⟨g1,g2,g3,g4⟩:=row_holds r hi hc hb;refine(h1 x.b 0 cap l w g1 (by unfold maxn at g4;omega) hn).mono ?_;rintro e' w' ⟨rfl,n,rfl⟩
  have hp:=row_put (q:=n) (os:= #[]) (c':=c') r hi hb (d:=padZ (Lib.compact l) l.length) (padZ_len hcl) (Nat.le_refl _) fun j hj=>hc' j (by rw[padZ_len hcl];exact hj);have hg:∀w:World,grow w #[]=w:=fun w=>by simp[grow]
  rw[hg]at hp;exact⟨_,β,G,K,rfl,Homes.le_refl _,G.ext_refl K,K.le_refl,hp,.row hb (by omega) hcap (by omega)⟩
 ·refine(h0 a 0 w).mono ?_;rintro e' w' ⟨rfl,rfl⟩
  have hB:=r.blk i _ hi;rw[hb]at hB;obtain⟨hB1,hB2⟩:l.length=0/\0<1:=hB;have hz:(Lib.compact l).length=0:=by omega
  refine⟨_,β,G,K,rfl,Homes.le_refl _,G.ext_refl K,K.le_refl,r.swap hi (by simp) rfl (by rw[hb];exact⟨hB1,hB2⟩),?_⟩;rw[hz];exact .row0 hb
end
end Ab
namespace Ab
open Go
theorem HCalls.vle{P:Program}{f:FuncId}{args args':List V}{v:V}{h h':List Blk}(hc:HCalls P f args v h h')(hl:args'.length=args.length)(hv:∀j,j<args.length->VLe (args'.getD j .undef) (args.getD j .undef)):HCalls P f args' v h h':=
 ⟨hc.1,fun β G K w xs r hs hr=>hc.2 β G K w xs r (by rw[<-hl];exact hs) fun j hj=>hv j hj _ _ _ (hr j (by rw[hl];exact hj))⟩
theorem Iter.vle{P:Program}{f:FuncId}{c c':V}{ys:List V}(h:Iter P f [c] ys)(hv:VLe c' c):Iter P f [c'] ys:=fun X h1 h2 h3=>by
 obtain⟨v,hc⟩:=h X h1 h2 h3;refine⟨v,hc.vle rfl fun j hj=> ?_⟩
 match j,hj with
 |0,_=>exact VLe.refl _
 |1,_=>exact hv
theorem VLe.cref{n:Nat}{c c':Nat->V}(h:∀j,j<n->VLe (c j) (c' j)):VLe (.cref n c) (.cref n c'):=fun G β x hx=>by
 cases hx with
 |cref hG hs hc=>exact .cref hG hs fun j hj=>h j hj _ _ _ (hc j hj)
theorem VLe.arrAgg{w n:Nat}{c:Nat->Nat->V}{vs:List V}(hl:vs.length=n*w)(hv:∀j,j<n*w->vs.getD j .undef=c (j/w) (j%w)):VLe (.arr w n c) (.agg vs):=fun G β x hx=>by
 cases hx with
 |arr hs hc=>
  refine .agg (by rw[hl,hs]) fun j hj=> ?_;rw[hl]at hj;rw[hv j hj];rcases Nat.eq_zero_or_pos w with h0|h0
  ·subst h0;simp at hj
  ·have h1:j/w<n:=Nat.div_lt_of_lt_mul (by rw[Nat.mul_comm];exact hj);have:=hc (j/w) (j%w) h1 (Nat.mod_lt _ h0);rw[Nat.mul_comm,Nat.div_add_mod]at this;exact this.up β
theorem AWP.region_anyC{P:Program}{ro:Env}{id:Nat}{ops:Array Oper}{S:St}{Q:Exit->St->Prop}(m:Nat)(hmx:P.follows .mixedOrders=true)(hback:backOK ops=true)(hm:m<=ops.size)
  (ht:∀j,m<=j->j<ops.size->tailAt ops j=true) (inv:Array Bool->St) (h0:∀β G K a w,RS β G K S a w->∃β',β.le β'/\RS β' G K (inv (Array.replicate ops.size false)) a w)
  (step:∀(l:Array Bool) (i:Nat),l.size=ops.size->i<m->l.getD i false=false->(∀j,m<=j->l.getD j false=false)->Closed ops l->i∈Region.ready .any ops l->AStep P ro ops i (inv l) (inv (l.setIfInBounds i true)))
  (last:∀(l:Array Bool),l.size=ops.size->(∀i,i<m->l.getD i false=true)->(∀j,m<=j->l.getD j false=false)->AOps P ro ops (List.range' m (ops.size-m)) (inv l) Q):AWP P ro (.region id ops true) S Q:=fun β G K a w r=>by
 refine wpIn_region_any hmx ?_
 have key:∀(fuel:Nat) (l:Array Bool) β G K a w,l.size=ops.size->unl l m+(ops.size-m)<=fuel->(∀j,m<=j->l.getD j false=false)->Closed ops l->RS β G K (inv l) a w->wpAnyIn (wide ro) 0 P .any ops (Post ro.m Q β G K) fuel l a w:=by
  intro fuel
  induction fuel with
  |zero=>
   intro l β G K a w hl hf hj hcl r;have h1:=unl_zero l m (by omega);exact tail_any hback ht (ops.size-m) m 0 l a w (by omega) (Nat.le_refl _) (by omega) hl h1 (fun i hi _=>hj i hi) (last l hl h1 hj β G K a w r)
  |succ fuel ih=>
   intro l β G K a w hl hf hj hcl r;by_cases hz:unl l m=0
   ·have h1:=unl_zero l m hz;exact tail_any hback ht (ops.size-m) m (fuel+1) l a w (by omega) (Nat.le_refl _) (by omega) hl h1 (fun i hi _=>hj i hi) (last l hl h1 hj β G K a w r)
   ·
    have ex:∃q,q<m/\l.getD q false=false/\∀i,i<q->l.getD i false=true:=by
     clear ih hf r step last
     have:∀k,unl l k≠0->∃q,q<k/\l.getD q false=false/\∀i,i<q->l.getD i false=true:=by
      intro k
      induction k with
      |zero=>intro h;simp[unl]at h
      |succ k ihk=>
       intro h;by_cases hk:unl l k=0
       ·refine⟨k,by omega,?_,unl_zero l k hk⟩
        cases hc:l.getD k false with
        |false=>rfl
        |true=>simp[unl,hk,hc]at h
       ·obtain⟨q,q1,q2,q3⟩:=ihk hk;exact⟨q,by omega,q2,q3⟩
     exact this m hz
    obtain⟨q,q1,q2,q3⟩:=ex;refine⟨fun hnil=> ?_,fun i hi=> ?_⟩
    ·have:=least_ready hback hl (q:=q) (by omega) q3 q2;rw[hnil]at this;cases this
    ·have hi':=hi;rw[mem_ready]at hi';obtain⟨e0,o,ho,_⟩:=hi';have hlt:=(Array.getElem?_eq_some_iff.1 ho).1;have e:l.getD i true=l.getD i false:=by simp[aG,show i<l.size by omega]
     rw[e]at e0
     have him:i<m:=by
      rcases Nat.lt_or_ge i m with z|z
      ·exact z
      ·have:=tailAt_ready hcl (ht i z hlt) hi q (by omega);rw[q2]at this;cases this
     refine step l i hl him e0 hj hcl hi β G K a w _ _ r fun β' G' K' a' w' hL hG hK r'=> ?_;have hu:=unl_set l i (by omega) e0 m;rw[if_pos him]at hu;have hpos:=unl_pos l i e0 m him;have:=ih (l.setIfInBounds i true) β' G' K' a' w' (by simp[hl]) (by omega) (fun j hj'=>by rw[getD_set_ne false (by omega)];exact hj j hj') (hcl.set hi) r';exact any_mono (fun e a w hp=>hp.up hL hG hK) this
 obtain⟨β',hle,r'⟩:=h0 β G K a w r;refine any_mono (fun e a w hp=>hp.up (hle.low _) (G.ext_refl K) K.le_refl) (key ops.size _ β' G K a _ (by simp) ?_ (fun j _=> ?_) (fun j hj=> ?_) r'.drew)
 ·have:∀k,unl (Array.replicate ops.size false) k<=k:=by
   intro k
   induction k with
   |zero=>simp[unl]
   |succ k ih=>simp only[unl];split<;>omega
  have:=this m;omega
 ·simp only[aG,Array.getElem?_replicate];split<;>rfl
 ·exfalso
  have:(Array.replicate ops.size false).getD j false=false:=by simp only[aG,Array.getElem?_replicate];split<;>rfl
  rw[this]at hj;cases hj
theorem ready_dep{ops:Array Oper}{l:Array Bool}{i:Nat}(hr:i∈Region.ready .any ops l){o:Oper}(ho:ops[i]? =some o):∀e∈o.after,Region.binds .any e=true->l.getD e.on false=true:=by
 rw[mem_ready]at hr;obtain⟨_,o',ho',h⟩:=hr;rw[ho]at ho';cases ho';exact h
theorem setCells_row(b:Nat)(z:Value)(e:TypeId)(fz:Nat × Nat):∀(m o:Nat) (w:World) (cs:Array Value),w.heap[b]? =some (.cells cs e fz)->o+m<=cs.size->
  ∃cs':Array Value,(w.setCells b o (List.replicate m z)).heap[b]? =some (.cells cs' e fz)/\cs'.size=cs.size/\(∀j,cs'.getD j Go.undef=if o<=j/\j<o+m then z else cs.getD j Go.undef)/\
   (w.setCells b o (List.replicate m z)).heap.size=w.heap.size/\∀k,k≠b->(w.setCells b o (List.replicate m z)).heap[k]? =w.heap[k]?
 |0,o,w,cs,h,_=>⟨cs,h,rfl,fun j=>by rw[if_neg (by omega)],rfl,fun _ _=>rfl⟩
 |m+1,o,w,cs,h,hm=>by
  have e1:w.setCells b o (List.replicate (m+1) z)=(w.setRow b (cs.setIfInBounds o z)).setCells b (o+1) (List.replicate m z):=by
   rw[List.replicate_succ];show(w.setCell ⟨b,o,none⟩ z).setCells b (o+1) _=_;rw[setCell_eq_setRow w b o cs e fz z h]
  obtain⟨cs',h1,h2,h3,h4,h5⟩:=setCells_row b z e fz m (o+1) (w.setRow b (cs.setIfInBounds o z)) (cs.setIfInBounds o z) (setRow_heap w b cs _ e fz h) (by simp;omega);rw[e1];refine⟨cs',h1,by rw[h2];simp,fun j=> ?_,by rw[h4];simp,fun k hk=>by rw[h5 k hk];exact setRow_other w b k _ hk⟩;rw[h3 j];by_cases q:o+1<=j/\j<o+1+m
  ·rw[if_pos q,if_pos (by omega)]
  ·rw[if_neg q];by_cases q2:j=o
   ·subst q2;rw[if_pos (by omega)];simp[aG,show j<cs.size by omega]
   ·rw[if_neg (by omega)];simp[aG,Array.getElem?_setIfInBounds,Ne.symm q2]
theorem setCells_mild(b:Nat):∀(vs:List Value) (o:Nat) (w:World),Mild w (w.setCells b o vs)
 |[],_,w=>Mild.refl w
 |v::r,o,w=>⟨(setCells_mild b r (o+1) (w.setCell ⟨b,o,none⟩ v)).os,(setCells_mild b r (o+1) (w.setCell ⟨b,o,none⟩ v)).out,(setCells_mild b r (o+1) (w.setCell ⟨b,o,none⟩ v)).tape,(setCells_mild b r (o+1) (w.setCell ⟨b,o,none⟩ v)).drawn⟩
variable {P:Program} {h:List Blk}
theorem sem_clear{x:Operand}{t e:TypeId}{i n a m:Nat}{et:TypeId}{c c':Nat->Nat->V}{z:V}{zv:Value}(hu:P.underlying t=some (.slice e))(hv:∀w,(zeroValue e).run P w=.ok zv w)(hz:zv.cells= #[zv])(h1:zv.oneCell'=true)(hzz:∀G β,Rel G β z zv)
  (hi:h[i]? =some (.rows et 1 n c)) (ham:a+m<=n) (hc':∀q,q<n->c' q 0=if a<=q/\q<a+m then z else c q 0):
  SemOK P (.call {callee:=.builtin .clear,args:= #[x],argTypes:= #[t]}) [(x,.sub i a 0 1 m)] h (.tuple []) (h.set i (.rows et 1 n c')):=fun β G K w ρ' oper ho _ r hr=>by
 have hx:=hr (x,.sub i a 0 1 m) (by simp);simp only at hx;have hB:=r.blk i _ hi
 have fin:∀w',(Builtin.clear_ #[t] oper.type #[ρ' x]).run P w=.ok (.tuple #[]) w'->RH β G K (h.set i (.rows et 1 n c')) w'->OpOK P β G K w ρ' oper (.tuple []) (h.set i (.rows et 1 n c')):=fun w' hrun hrh=>
  ⟨.value (.tuple #[]),w',β,by
   simp only[execOp,ho,resolve,Sem.run_bind,Sem.run_pure,Result.andThen_ok,invoke,builtin,List.map_toArray,List.map_cons,List.map_nil,hrun],Homes.le_refl _,hrh,.tuple rfl fun j hj=>absurd hj (Nat.not_lt_zero _)⟩
 rcases Nat.eq_zero_or_pos m with h0|h0
 ·subst h0;have hsame:∀q,q<n->c' q 0=c q 0:=fun q hq=>by rw[hc' q hq,if_neg (by omega)]
  refine fin w ?_ (r.swap hi (by simp) rfl ?_)
  ·have:∃a cp,ρ' x=.slice a 0 cp:=by generalize ρ' x=xv at hx;cases hx<;>exact⟨_,_,rfl⟩
   obtain⟨a1,c1,e1⟩:=this;rw[e1];cases a1<;>simp[Builtin.clear_,run_underlying' hu]
  ·revert hB
   cases β[i]?.getD .void with
   |void=>exact id
   |nil=>exact id
   |ext l=>exact id
   |lie z=>
    rintro⟨h0,hn,hcm,ca,h1,h2,h3,h4,h5⟩
    exact⟨h0,hn,hcm,ca,h1,h2,h3,h4,fun r j hr hj=>by
     obtain rfl:j=0:=by omega
     rw[hsame r hr];exact h5 r 0 hr hj⟩
 ·generalize hxv:ρ' x=xv at hx
  cases hx with
  |sub0=>omega
  |sub hb hcc hmx2=>
   rename_i cap hm;rw[hb]at hB;obtain⟨hw1,hn,hcm,cs,hh,hs2,hmc,hmx,hrr⟩:=hB;have hcsz:a+m<=cs.size:=by rw[hs2];simp;omega
   have hoff:a*hm.w+0=a:=by rw[hw1];omega
   obtain⟨cs',k1,k2,k3,k4,k5⟩:=setCells_row hm.b zv et (0,0) m a w cs hh hcsz
   have hrun:=Lib.run_clear_slice (P:=P) w t e oper.type zv hu hv hz h1 hm.b a m cap h0 (fun j hj=>by
    simp only[World.cell?,hh,Option.isSome_none,Bool.false_eq_true,if_false]
    rw[Array.getElem?_eq_getElem (by omega)];rfl) (fun j hj=>by simp[World.frozen?,hh])
   refine fin _ (by rw[hxv,hoff];exact hrun) (r.write hi (by simp) hb k5 k4 ⟨hw1,hn,hcm,cs',k1,by rw[k2];exact hs2,hmc,hmx,fun q j hq hj=> ?_⟩ (setCells_mild _ _ _ w));have hj0:j=0:=by omega
   subst hj0;rw[k3];have hold:=hrr q 0 hq (by omega);rw[Nat.mul_one,Nat.add_zero]at hold⊢;rw[hc' q hq];by_cases z1:a<=q/\q<a+m
   ·rw[if_pos z1,if_pos z1];exact hzz _ _
   ·rw[if_neg z1,if_neg z1];exact hold
end Ab
namespace Go.Proofs.YtdamoemndifpmaaGreat
open Ab Go
def allS(p:Nat->Bool)(n:Nat):Bool:=(List.range n).all p
theorem allS_iff{p:Nat->Bool}{n:Nat}(h:allS p n=true){i:Nat}(hi:i<n):p i=true:=by
 unfold allS at h;rw[List.all_eq_true]at h;exact h i (List.mem_range.2 hi)
theorem add_or{n a:Nat}(h:a<2^n):2^n+a=2^n|||a:=by
 have:=Nat.two_pow_add_eq_or_of_lt h 1;rwa[Nat.mul_one]at this
def mN(p:Nat->Bool)(n:Nat):Nat:=natF (fun i acc=>if p i=true then acc+2^i else acc) 0 n
theorem mN_lt(p:Nat->Bool):∀n,mN p n<2^n
 |0=>by simp[mN,natF]
 |n+1=>by
  have h:=mN_lt p n;have e:mN p (n+1)=if p n=true then mN p n+2^n else mN p n:=rfl
  rw[e,Nat.pow_succ];have hp:0<2^n:=Nat.two_pow_pos n;split<;>omega
theorem mask_mN(p:Nat->Bool):∀n,maskTo p n=(mN p n:Int)
 |0=>rfl
 |n+1=>by
  have e:mN p (n+1)=if p n=true then mN p n+2^n else mN p n:=rfl
  rw[mask_succ,e,mask_mN p n,bitZ_nat];split<;>simp
theorem mN_test(p:Nat->Bool):∀n i,(mN p n).testBit i=(decide (i<n)&&p i)
 |0,i=>by simp[mN,natF]
 |n+1,i=>by
  have e:mN p (n+1)=if p n=true then mN p n+2^n else mN p n:=rfl
  have ih:=mN_test p n;have hlt:=mN_lt p n;rw[e];by_cases hp:p n=true
  ·rw[if_pos hp,Nat.add_comm,add_or hlt,Nat.testBit_or,Nat.testBit_two_pow,ih i];by_cases h1:n=i
   ·subst h1;simp[hp]
   ·have h2:(decide (i<n+1))=decide (i<n):=by rw[Bool.eq_iff_iff];simp;omega
    rw[h2];simp[h1]
  ·rw[if_neg hp,ih i];by_cases h1:n=i
   ·subst h1;simp at hp;simp[hp]
   ·have h2:(decide (i<n+1))=decide (i<n):=by rw[Bool.eq_iff_iff];simp;omega
    rw[h2]
def orZ(a b:Int):Int:=bitsOf .or .i64 a b
theorem or_nat_all:(allS (fun a=>allS (fun b=>orZ a b==((a|||b:Nat):Int)) 32) 32)=true:=by kernel_rfl
theorem orZ_nat{a b:Nat}(ha:a<32)(hb:b<32):orZ a b=((a|||b:Nat):Int):=by
 have:=allS_iff (allS_iff or_nat_all ha) hb;simpa using this
theorem orZ_lt{a b:Int}(ha:0<=a/\a<32)(hb:0<=b/\b<32):0<=orZ a b/\orZ a b<32:=by
 obtain⟨x,rfl⟩:=Int.eq_ofNat_of_zero_le ha.1;obtain⟨y,rfl⟩:=Int.eq_ofNat_of_zero_le hb.1;rw[orZ_nat (by omega) (by omega)];have:x|||y<2^5:=Nat.or_lt_two_pow (by omega) (by omega)
 omega
theorem or_mask{p q:Nat->Bool}{n:Nat}(h5:n<=5):orZ (maskTo p n) (maskTo q n)=maskTo (fun i=>p i||q i) n:=by
 have h32:∀p,mN p n<32:=fun p=>Nat.lt_of_lt_of_le (mN_lt p n) (Nat.pow_le_pow_right (by decide) h5:2^n<=2^5);rw[mask_mN,mask_mN,mask_mN,orZ_nat (h32 p) (h32 q)];congr 1
 refine Nat.eq_of_testBit_eq fun i=> ?_;rw[Nat.testBit_or,mN_test,mN_test,mN_test];cases decide (i<n)<;>simp
theorem or_bit{p:Nat->Bool}{n:Nat}(h5:n<5)(hp:p n=true):orZ (maskTo p n) (2^n)=maskTo p (n+1):=by
 rw[mask_succ,if_pos hp,bitZ_nat];have hlt:=mN_lt p n;have h16:2^n<=2^4:=Nat.pow_le_pow_right (by decide) (by omega);rw[mask_mN,show(2:Int)^n=((2^n:Nat):Int) by simp,orZ_nat (by omega) (by omega),Nat.or_comm,<-add_or hlt];simp;omega
def lastStepA(s:Shop)(m f:Int)(l:Nat->Cast)(i:Nat)(x:Span):Span:=if(l i).mould=m/\¬l i=zCast then narrow ((s.heads.getD i zHead).shows.getD f.toNat 0) (l i).number x else x
def lastA(s:Shop)(l:Nat->Cast)(m f:Int)(n:Nat):Span:=natF (fun i x=>lastStepA s m f l i x) (span0 s m f) n
def castPA(c:Case)(l:Nat->Cast)(i:Nat):Bool:= !lasting (cl c i).kind&&soF (cl c i) l
def ownP(c:Case)(m f last:Int)(i:Nat):Bool:=lasting (cl c i).kind&&((cl c i).mould==m&&((cl c i).feature==f&&soL (cl c i) last))
theorem ownP_about(c:Case)(l:List Cast)(m f last:Int)(i:Nat):ownP c m f last i=aboutP c l m f last i:=by
 unfold ownP aboutP so;cases h:lasting (cl c i).kind<;>simp
def ownA(c:Case)(m f last:Int)(n:Nat):Int:=maskTo (ownP c m f last) n
def spanA(c:Case)(l:Nat->Cast)(m f:Int):Span:=lastA c.shop l m f c.shop.heads.length
def nextA(c:Case)(m f lo:Int)(sets:List Int)(n:Nat):List Int:=(List.range n).flatMap fun(k:Nat)=>sets.map fun s=>orZ s (ownA c m f (lo+(k:Int)) c.claims.length)
def stepA(c:Case)(l:Nat->Cast)(m f:Int)(sets:List Int):List Int:=Lib.compact (sortZ (nextA c m f (spanA c l m f).lo sets (wide (spanA c l m f))))
def featA(c:Case)(l:Nat->Cast)(m:Int)(sets:List Int)(n:Nat):List Int:=natF (fun(f:Nat) s=>stepA c l m f s) sets n
def mouldA(c:Case)(l:Nat->Cast)(n:Nat):List Int:=natF (fun(m:Nat) s=>featA c l m s c.shop.features.toNat) [maskTo (castPA c l) c.claims.length] n
def casesA(c:Case)(l:Nat->Cast):List Int:=mouldA c l c.shop.moulds.length
theorem keeps_back(d:Array Int):∀j,j<d.size->∃i,i<d.size/\Lib.keeps d i=true/\d[i]! =d[j]!
 |0,h=>⟨0,h,Lib.keeps_lt_one d 0 (by omega),rfl⟩
 |j+1,h=>by
  by_cases e:d[j+1]! =d[j]!
  ·obtain⟨i,h1,h2,h3⟩:=keeps_back d j (by omega);exact⟨i,h1,h2,by rw[h3,e]⟩
  ·exact⟨j+1,h,Lib.keeps_pos (by simpa using e),rfl⟩
theorem mem_compact{l:List Int}{x:Int}:x∈Lib.compact l↔x∈l:=by
 simp only[Lib.compact,Lib.compactUpTo,List.mem_map,List.mem_filter,List.mem_range];have hg:∀i,i<l.length->l.toArray[i]! =l.getD i 0:=fun i hi=>by simp[hi,gE]
 constructor
 ·rintro⟨i,⟨h1,_⟩,rfl⟩
  rw[hg i h1];exact getD_mem 0 l i h1
 ·intro h;obtain⟨j,hj,rfl⟩:=List.getElem_of_mem h;obtain⟨i,h1,h2,h3⟩:=keeps_back l.toArray j (by simpa using hj);have h1':i<l.length:=by simpa using h1
  exact⟨i,⟨h1',h2⟩,by rw[h3,hg j hj];simp[gE,hj]⟩
theorem mem_sortZ{l:List Int}{x:Int}:x∈sortZ l↔x∈l:=List.mem_mergeSort
theorem mem_nextA{c:Case}{m f lo:Int}{sets:List Int}{n:Nat}{y:Int}:y∈nextA c m f lo sets n↔∃k:Nat,k<n/\∃s∈sets,y=orZ s (ownA c m f (lo+(k:Int)) c.claims.length):=by
 simp only[nextA,List.mem_flatMap,List.mem_range,List.mem_map];constructor
 ·rintro⟨k,h1,s,h2,rfl⟩;exact⟨k,h1,s,h2,rfl⟩
 ·rintro⟨k,h1,s,h2,rfl⟩;exact⟨k,h1,s,h2,rfl⟩
theorem mem_stepA{c:Case}{l:Nat->Cast}{m f:Int}{sets:List Int}{y:Int}:y∈stepA c l m f sets↔∃last,(spanA c l m f).lo<=last/\last<=(spanA c l m f).hi/\∃s∈sets,y=orZ s (ownA c m f last c.claims.length):=by
 unfold stepA;rw[mem_compact,mem_sortZ,mem_nextA];constructor
 ·rintro⟨k,hk,h⟩
  unfold wide at hk;exact⟨_,by omega,by omega,h⟩
 ·rintro⟨last,h1,h2,h⟩
  refine⟨(last-(spanA c l m f).lo).toNat,by unfold wide;omega,?_⟩;rw[show(spanA c l m f).lo+((last-(spanA c l m f).lo).toNat:Int)=last by omega];exact h
theorem nextA_len(c:Case)(m f lo:Int)(sets:List Int)(n:Nat):(nextA c m f lo sets n).length<=n*sets.length:=by
 have:=flat_le (l:=List.range n) (f:=fun(k:Nat)=>sets.map fun s=>orZ s (ownA c m f (lo+(k:Int)) c.claims.length)) (b:=sets.length) fun k _=>by simp
 simpa[nextA]using this
theorem lastA_in{s:Shop}(h:OkShop s)(l:Nat->Cast){m f:Int}(hm:0<=m/\m<s.moulds.length)(hf:0<=f/\f<s.features):∀n,0<=(lastA s l m f n).lo/\(lastA s l m f n).hi<=6
 |0=>by
  have h1:=h.mould _ (getD_mem zMould s.moulds m.toNat (by omega));have:=h1.2.2 _ (getD_mem zSpan _ f.toNat (by omega));exact⟨this.1,this.2.2⟩
 |n+1=>by
  have ih:=lastA_in h l hm hf n;have e:lastA s l m f (n+1)=lastStepA s m f l n (lastA s l m f n):=rfl;rw[e];unfold lastStepA;split
  ·exact narrow_in ih
  ·exact ih
theorem wideA_le{s:Shop}(h:OkShop s)(l:Nat->Cast){m f:Int}(hm:0<=m/\m<s.moulds.length)(hf:0<=f/\f<s.features)(n:Nat):wide (lastA s l m f n)<=7:=by
 have:=lastA_in h l hm hf n;unfold wide;omega
theorem stepA_le{c:Case}(h:OkShop c.shop)(l:Nat->Cast){m f:Int}(hm:0<=m/\m<c.shop.moulds.length)(hf:0<=f/\f<c.shop.features)(out:List Int):(stepA c l m f out).length<=7*out.length:=by
 have h1:=compact_len (sortZ (nextA c m f (spanA c l m f).lo out (wide (spanA c l m f))));rw[sortZ_len]at h1;have h2:=nextA_len c m f (spanA c l m f).lo out (wide (spanA c l m f));exact Nat.le_trans h1 (Nat.le_trans h2 (Nat.mul_le_mul_right _ (wideA_le h l hm hf _)))
theorem featA_le{c:Case}(h:OkShop c.shop)(l:Nat->Cast){m:Int}(hm:0<=m/\m<c.shop.moulds.length)(out:List Int):∀n:Nat,(n:Int)<=c.shop.features->(featA c l m out n).length<=7^n*out.length
 |0,_=>by simp[featA,natF]
 |n+1,hn=>by
  have h1:=featA_le h l hm out n (by omega);have h2:=stepA_le h l hm (f:=(n:Int)) (by omega) (featA c l m out n);show(stepA _ _ _ _ _).length<=_;rw[Nat.pow_succ];refine Nat.le_trans h2 (Nat.le_trans (Nat.mul_le_mul_left 7 h1) ?_);rw[<-Nat.mul_assoc,Nat.mul_comm 7];exact Nat.le_refl _
theorem mouldA_le{c:Case}(h:OkShop c.shop)(l:Nat->Cast):∀n:Nat,n<=c.shop.moulds.length->(mouldA c l n).length<=2401^n
 |0,_=>by simp[mouldA,natF]
 |n+1,hn=>by
  have h1:=mouldA_le h l n (by omega);have hf:=h.feat;have h2:=featA_le h l (m:=(n:Int)) (by omega) (mouldA c l n) c.shop.features.toNat (by omega);have h3:=pow7 (F:=c.shop.features.toNat) (by omega);show(featA _ _ _ _ _).length<=_;rw[Nat.pow_succ];refine Nat.le_trans h2 (Nat.le_trans (Nat.mul_le_mul h3 h1) ?_);rw[Nat.mul_comm];exact Nat.le_refl _
theorem ownA_lt{c:Case}(h5:c.claims.length<=5)(m f last:Int):0<=ownA c m f last c.claims.length/\ownA c m f last c.claims.length<32:=mask_lt h5
theorem stepA_lt{c:Case}(h5:c.claims.length<=5){l:Nat->Cast}{m f:Int}{sets:List Int}(h:∀s∈sets,0<=s/\s<32):∀y∈stepA c l m f sets,0<=y/\y<32:=fun y hy=>by
 obtain⟨last,_,_,s,hs,rfl⟩:=mem_stepA.1 hy;exact orZ_lt (h s hs) (ownA_lt h5 m f last)
theorem featA_lt{c:Case}(h5:c.claims.length<=5){l:Nat->Cast}{m:Int}{sets:List Int}(h:∀s∈sets,0<=s/\s<32):∀n,∀y∈featA c l m sets n,0<=y/\y<32
 |0=>h
 |n+1=>stepA_lt h5 (featA_lt h5 h n)
theorem mouldA_lt{c:Case}(h5:c.claims.length<=5){l:Nat->Cast}:∀n,∀y∈mouldA c l n,0<=y/\y<32
 |0=>fun y hy=>by
  have:y=maskTo (castPA c l) c.claims.length:=by simpa[mouldA,natF]using hy
  rw[this];exact mask_lt h5
 |n+1=>featA_lt h5 (mouldA_lt h5 n) _
def preA(f:Nat->Cast)(n:Nat):List Cast:=(List.range n).map f
def okA(s:Shop)(f:Nat->Cast)(h:Nat)(c:Cast):Bool:=
 !((preA f h).any fun x=>sameC c x)&& !((List.range s.features.toNat).any fun(q:Nat)=>decide ((lastA s (upd f h c) c.mould q s.heads.length).hi<(lastA s (upd f h c) c.mould q s.heads.length).lo))
def leavesA(s:Shop):Nat->Nat->(Nat->Cast)->List (Nat->Cast)
 |0,_,f=>[f]
 |n+1,h,f=>(allCasts s).flatMap fun c=>if okA s f h c=true then leavesA s n (h+1) (upd f h c)else[]
def leavesH(s:Shop)(h:Nat)(f:Nat->Cast):List (Nat->Cast):=leavesA s (s.heads.length-h) h f
def belowA(s:Shop)(h:Nat)(f:Nat->Cast)(c:Cast):List (Nat->Cast):=if okA s f h c=true then leavesH s (h+1) (upd f h c)else[]
theorem leavesH_end(s:Shop)(f:Nat->Cast):leavesH s s.heads.length f=[f]:=by
 unfold leavesH;rw[Nat.sub_self];rfl
theorem leavesH_step(s:Shop){h:Nat}(hh:h<s.heads.length)(f:Nat->Cast):leavesH s h f=(allCasts s).flatMap (belowA s h f):=by
 unfold leavesH belowA leavesH
 obtain⟨n,hn⟩:∃n,s.heads.length-h=n+1:=⟨s.heads.length-h-1,by omega⟩
 rw[hn,show s.heads.length-(h+1)=n by omega];rfl
def yA(f:Nat->Cast):V:=.tuple [.arr 2 4 (rowsFn tCast f)]
def ysA(l:List (Nat->Cast)):List V:=l.map yA
def endF(go:List V->Bool)(f:Nat->Cast):List V->List (Nat->Cast)->Nat->Cast
 |_,[]=>f
 |tr,y::ys=>bif go tr then(bif go (tr++ [yA y])then endF go f (tr++ [yA y]) ys else y)else f
theorem feed_app(go:List V->Bool):∀(a b tr:List V),feed go tr (a++b)=feed go (feed go tr a) b
 |[],b,tr=>rfl
 |x::a,b,tr=>by
  simp only[List.cons_append,feed]
  cases h:go tr with
  |true=>simp only[cond_true];exact feed_app go a b _
  |false=>
   simp only[cond_false]
   cases b with
   |nil=>rfl
   |cons y b=>simp[feed,h]
theorem feed_stop{go:List V->Bool}{tr:List V}(h:go tr=false)(b:List V):feed go tr b=tr:=by
 cases b with
 |nil=>rfl
 |cons y b=>simp[feed,h]
theorem feed_all{go:List V->Bool}:∀ {a tr:List V},go (feed go tr a)=true->feed go tr a=tr++a
 |[],tr,_=>by simp[feed]
 |x::a,tr,h=>by
  simp only[feed]at h⊢
  cases hg:go tr with
  |true=>
   rw[hg]at h;simp only[cond_true]at h⊢;rw[feed_all h];simp
  |false=>
   rw[hg]at h;simp only[cond_false]at h;rw[hg]at h;cases h
theorem feed_one{go:List V->Bool}{tr:List V}(h:go tr=true)(y:V):feed go tr [y]=tr++ [y]:=by simp[feed,h]
theorem endF_go{go:List V->Bool}{f:Nat->Cast}:∀ {l:List (Nat->Cast)} {tr:List V},go (feed go tr (ysA l))=true->endF go f tr l=f
 |[],tr,_=>rfl
 |y::l,tr,h=>by
  simp only[ysA,List.map_cons,feed]at h;simp only[endF]
  cases hg:go tr with
  |false=>rfl
  |true=>
   rw[hg]at h;simp only[cond_true]at h⊢
   cases hg2:go (tr++ [yA y])with
   |true=>simp only[cond_true];exact endF_go h
   |false=>
    rw[feed_stop hg2,hg2]at h;cases h
theorem endF_app{go:List V->Bool}{f:Nat->Cast}:∀ {a b:List (Nat->Cast)} {tr:List V},go (feed go tr (ysA a))=true->endF go f tr (a++b)=endF go f (feed go tr (ysA a)) b
 |[],b,tr,_=>rfl
 |y::a,b,tr,h=>by
  simp only[ysA,List.map_cons,feed]at h⊢;simp only[List.cons_append,endF]
  cases hg:go tr with
  |false=>rw[hg]at h;simp only[cond_false]at h;rw[hg]at h;cases h
  |true=>
   rw[hg]at h;simp only[cond_true]at h⊢
   cases hg2:go (tr++ [yA y])with
   |true=>simp only[cond_true];exact endF_app h
   |false=>rw[feed_stop hg2,hg2]at h;cases h
theorem endF_stop{go:List V->Bool}{f g:Nat->Cast}:∀ {a:List (Nat->Cast)} (b:List (Nat->Cast)) {tr:List V},go tr=true->go (feed go tr (ysA a))=false->endF go f tr (a++b)=endF go g tr a
 |[],b,tr,h0,h=>by simp only[ysA,List.map_nil,feed]at h;rw[h0]at h;cases h
 |y::a,b,tr,h0,h=>by
  simp only[ysA,List.map_cons,feed]at h;simp only[List.cons_append,endF];rw[h0]at h⊢;simp only[cond_true]at h⊢
  cases hg2:go (tr++ [yA y])with
  |true=>simp only[cond_true];exact endF_stop b hg2 h
  |false=>rfl
theorem ysA_app(a b:List (Nat->Cast)):ysA (a++b)=ysA a++ysA b:=by simp[ysA]
theorem upd_back{f:Nat->Cast}{h:Nat}(hz:f h=zCast)(c:Cast):upd (upd f h c) h zCast=f:=by
 funext j
 unfold upd;by_cases e:j=h
 ·subst e;simp[hz]
 ·simp[e]
end Go.Proofs.YtdamoemndifpmaaGreat
