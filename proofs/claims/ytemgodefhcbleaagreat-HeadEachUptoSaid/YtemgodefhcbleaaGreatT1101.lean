/-
  Part of the proof of HeadEach. Conditions: those that stand in each theorem.
-/
import Derived.Test.YtemgodefhcbleaaGreatB17
set_option linter.unusedSimpArgs false
set_option linter.unusedVariables false
set_option maxRecDepth 100000
namespace Ab
theorem any_of_firstI{τ:Type}{p:τ→Bool}{l:List τ}{i:Nat}:firstI p 0 l=some i→l.any p=true:=fun h=>by
 rw[←firstI_any p l 0,h];rfl
theorem any_of_none{τ:Type}{p:τ→Bool}{l:List τ}:firstI p 0 l=none→l.any p=false:=fun h=>by
 rw[←firstI_any p l 0,h];rfl
end Ab
namespace Go.Proofs.YtemgodefhcbleaaGreat
open Ab Go
noncomputable section
inductive P44
 |e
 |l0 (x0_5:Int)
inductive R44
 |r0 (r0:Bool)
noncomputable def T44(p0:List Int)(p1:Int):P44→Tr P44 R44
 |.e=>(.go (.l0 0))
 |.l0 x0_5=>let c1:=x0_5<(p0.length:Int);(.br (decide c1) (.need (decide (0≤x0_5)&&decide c1) (.br ((p0.getD (x0_5).toNat tint.zero)==p1) (.out (.r0 true)) (.need (inR .i64 (x0_5+(1:Int))) (.go (.l0 (x0_5+(1:Int))))))) (.out (.r0 false)))
noncomputable def g44(p0:List Int)(p1:Int):P44→List Item × St
 |.e=>bd Tryz.f44 [tint.lst p0,iI p1] 16
 |.l0 x0_5=>(cutOf Tryz.f44 0,⟨mk 18 [(0,tint.lst p0),(1,iI p1),(4,.bool false),(5,iI x0_5)],[],[]⟩)
noncomputable def n44:R44→Exit × St
 |.r0 r0=>(.ret,⟨mk 18 [(4,.bool r0)],[],[]⟩)
noncomputable def v44:R44→V
 |.r0 r0=>.bool r0
theorem s44(p0:List Int)(p1:Int):Sm 0 (g44 p0 p1) (T44 p0 p1) (n44)
 |.e=>⟨400,by kernel_rfl⟩
 |.l0 _=>⟨400,by kernel_rfl⟩
theorem q44:∀r,bodyQ Tryz.prog Tryz.f44 (·=v44 r) (n44 r).1 (n44 r).2
 |.r0 r0=>bq (.bool r0) (by kernel_rfl)
theorem w44(p0:List Int)(p1:Int){post:V→Prop}(h:WQ (T44 p0 p1) v44 post .e):PC 44 [tint.lst p0,iI p1] post:=
 PCalls.wq Tryz.func44 (s44 p0 p1) q44 h
theorem e44:∀xs w,(callFunc 44 xs).run Tryz.prog w=.ok (.enter 44 xs) w:=PCalls.enters Tryz.func44 (c:=Tryz.f44.body.getD .skip) (by kernel_rfl) (by kernel_rfl)
theorem c44(l:List Int)(n:Int):PC 44 [tint.lst l,iI n] (·=.bool (hasN l n)):=by
 refine PCalls.assume e44 0 (by simp) .list fun hl=> ?_
 refine w44 _ _ (WP.step ?_)
 simp only[T44,Go,Ends',v44,Tr.sure,SS]
 repeat' with_reducible first|intro _|apply And.intro
 refine WP.findI (fun i=>.l0 i) rfl l 0 (·==n) (fun i hi=> ?_) fun hI=> ?_
 ·have hr:=inRi hi hl
  have ha:firstI (·==n) 0 l=some i→l.any (·==n)=true:=any_of_firstI
  refine WP.once ?_
  simp only[T44,Tr.sure,SS,hi,z1]
  repeat' with_reducible first|intro _|apply And.intro
  all_goals first|(simp[hr,hasN,Go,Ends',v44,-List.getD_eq_getElem?_getD, *];done)|(simp_all [hr,hasN,Go,Ends',v44,-List.getD_eq_getElem?_getD];done)
 ·have ha:=any_of_none hI
  refine WP.step ?_
  simp only[T44,Go,Ends',v44,Tr.sure,SS,Int.lt_irrefl]
  repeat' with_reducible first|intro _|apply And.intro
  all_goals simp[hasN,ha,Go,Ends',v44,-List.getD_eq_getElem?_getD, *]
end
noncomputable section
theorem mem_firstH{b:Book}{n:Int}:n∈firstH b↔0≤n∧n<b.bodies.length:=by
 unfold firstH
 rw[List.mem_map]
 constructor
 ·rintro⟨i,hi,rfl⟩;rw[List.mem_range]at hi;omega
 ·intro h;exact⟨n.toNat,by rw[List.mem_range];omega,by omega⟩
end
theorem firstE_all{τ:Type}{of:Nat→τ→Int}(d:τ):∀ {l:List τ} {i:Nat},(∀j,j<l.length→of (i+j) (l.getD j d)=0)→firstE of i l=none
 |[],_,_=>rfl
 |x::l,i,h=>by
  have h0:=h 0 (by simp)
  simp only[Nat.add_zero,List.getD_cons_zero]at h0
  simp only[firstE,h0,if_true]
  refine firstE_all d fun j hj=> ?_
  have:=h (j+1) (by simpa using hj)
  rw[show i+(j+1)=i+1+j by omega]at this
  simpa using this
theorem bookCheck_of{b:Book}(h:OkBook b):bookCheck b=(0,0,0):=by
 have e1:firstE (bodyAt b.bodies) 0 b.bodies=none:=firstE_all zBody fun j hj=>by rw[Nat.zero_add];exact h.body j hj
 have e2:firstE (headAt b.heads) 0 b.heads=none:=firstE_all ByteArray.empty fun j hj=>by rw[Nat.zero_add];exact h.head j hj
 have e3:firstE (lineErr b) 0 b.lines=none:=firstE_all zLine fun j hj=>by rw[Nat.zero_add];exact h.lineE j hj
 unfold bookCheck
 have h1:=h.nb
 have h2:=h.nh
 have h3:=h.nl
 rw[if_neg (by omega),e1]
 simp only
 rw[if_neg (by omega),e2]
 simp only
 rw[if_neg (by omega),e3]
theorem outside_no{lo hi:Int}{l:List Int}(h:∀n∈l,lo≤n∧n≤hi):outside lo hi l=false:=by
 unfold outside
 cases e:l.any fun n=> !within n lo hi with
 |false=>rfl
 |true=>
  obtain⟨n,hn,q⟩:=List.any_eq_true.1 e
  rw[not_iff_false]at q
  have:=within_iff.2 (h n hn)
  rw[q]at this;cases this
theorem told_val{b:Book}(h:OkBook b){ns:List Int}(hn:∀n∈ns,0≤n∧n<b.bodies.length){d:Int}(hd:0≤d∧d≤364):toldR b ns d=if(truthsR b []).length=0 then([],8)else(truthsR b [],0):=by
 have e:toldE b ns d=0:=by
  unfold toldE
  rw[bookCheck_of h,if_neg (by decide),outside_no (fun n hm=>by have:=hn n hm;omega),if_neg (by decide),within_iff.2 hd,if_pos rfl]
 unfold toldR
 rw[e,if_neg (by decide)]
theorem told_zero{b:Book}(h:OkBook b){ns:List Int}(hn:∀n∈ns,0≤n∧n<b.bodies.length){d:Int}(hd:0≤d∧d≤364)(ht:0<(truthsR b []).length):(toldR b ns d).2=0:=by
 rw[told_val h hn hd,if_neg (by omega)]
theorem told_eight{b:Book}(h:OkBook b){ns:List Int}(hn:∀n∈ns,0≤n∧n<b.bodies.length){d:Int}(hd:0≤d∧d≤364)(ht:(truthsR b []).length=0):toldR b ns d=([],8):=by
 rw[told_val h hn hd,if_pos ht]
theorem one_in{n m:Int}(h:0≤n∧n<m):∀k∈ [n],0≤k∧k<m:=fun k hk=>by rw[List.mem_singleton.1 hk];exact h
section
variable {b b':Book} {D:Int→Prop}
theorem anyT_iff{d:Int}{i:Nat}{n:Int}{L:List Truth}:anyT b d L i n=true↔∃t∈L,(atR b t d).getD i 0=n:=by
 unfold anyT;rw[List.any_eq_true];simp only[beq_iff_eq]
theorem where_is{head d:Int}(h0:(toldR b [head] d).2=0):whereR b head d=(((List.range b.bodies.length).filter fun i=>anyT b d (truthsR b []) i head).map fun(i:Nat)=>(i:Int),0):=by unfold whereR;rw[if_neg (fun q=>q h0)]
theorem on_is{o d:Int}(h0:(toldR b [o] d).2=0):onR b o d=(((List.range b.heads.length).filter fun(h:Nat)=>anyT b d (truthsR b []) o.toNat (h:Int)).map fun(i:Nat)=>(i:Int),0):=by unfold onR;rw[if_neg (fun q=>q h0)]
theorem many_is{d:Int}(h0:(toldR b [] d).2=0):manyR b d=(((((truthsR b []).map fun t=>atR b t d).foldl metN []).length:Int),0):=by unfold manyR;rw[if_neg (fun q=>q h0)]
theorem mem_filtR{n:Nat}{p:Nat→Bool}{c:Int}:c∈((List.range n).filter p).map (fun(i:Nat)=>(i:Int))↔∃i,i<n∧p i=true∧(i:Int)=c:=by
 rw[List.mem_map]
 constructor
 ·rintro⟨i,hi,e⟩
  obtain⟨h1,h2⟩:=List.mem_filter.1 hi
  exact⟨i,List.mem_range.1 h1,h2,e⟩
 ·rintro⟨i,h1,h2,e⟩;exact⟨i,List.mem_filter.2 ⟨List.mem_range.2 h1,h2⟩,e⟩
theorem mem_met{x:List Int}:∀ {l met:List (List Int)},x∈l.foldl metN met↔x∈met∨x∈l
 |[],met=>by simp
 |y::l,met=>by
  rw[List.foldl_cons,mem_met,List.mem_cons]
  unfold metN
  split
  ·rename_i q
   obtain⟨z,hz,e⟩:=List.any_eq_true.1 q
   have e:z=y:=by simpa[sameI]using e
   subst e
   constructor
   ·rintro(a|a)
    ·exact .inl a
    ·exact .inr (.inr a)
   ·rintro(a|rfl|a)
    ·exact .inl a
    ·exact .inl hz
    ·exact .inr a
  ·rw[List.mem_append,List.mem_singleton,or_assoc]
end
noncomputable section
def dayR(n:Int):Int:=n.tmod 365
def ascAt(l:List Int)(n:Int)(i:Nat):Bool:=decide (l.getD i 0<0)||(decide (n≤l.getD i 0)||(decide (0<i)&&decide (l.getD i 0≤l.getD (i-1) 0)))
def ascR(l:List Int)(n:Int):Bool:=(List.range l.length).all fun i=> !ascAt l n i
theorem valid_ok{b:Book}(h:validR b=true):OkBook b:=okBook (by simpa[validR]using h)
theorem valid_of{b:Book}(h:OkBook b):validR b=true:=by unfold validR;rw[bookCheck_of h];rfl
inductive P41
 |e
inductive R41
 |r0 (r0:Int)
noncomputable def T41(n:Int):P41→Tr P41 R41
 |.e=>(.need (inR .i64 n) (.need (decide ((365:Int)≠0)) (.out (.r0 (n.tmod (365:Int))))))
noncomputable def g41(n:Int):P41→List Item × St
 |.e=>bd Tryz.f41 [.int .u16 n] 5
noncomputable def n41:R41→Exit × St
 |.r0 r0=>(.ret,⟨mk 6 [(2,iI r0)],[],[]⟩)
noncomputable def v41:R41→V
 |.r0 r0=>iI r0
theorem s41(n:Int):Sm 0 (g41 n) (T41 n) (n41)
 |.e=>⟨400,by kernel_rfl⟩
theorem q41:∀r,bodyQ Tryz.prog Tryz.f41 (·=v41 r) (n41 r).1 (n41 r).2
 |.r0 r0=>bq (iI r0) (by kernel_rfl)
theorem w41(n:Int){post:V→Prop}(h:WQ (T41 n) v41 post .e):PC 41 [.int .u16 n] post:=
 PCalls.wq Tryz.func41 (s41 n) q41 h
theorem c41(n:Int)(h:inR .i64 n=true):PC 41 [.int .u16 n] (·=iI (dayR n)):=by
 refine w41 n (WP.step ?_)
 simp only[T41,Go,Ends',v41,Tr.sure,SS]
 repeat' with_reducible first|intro _|apply And.intro
 all_goals simp[h,dayR,Go,Ends',v41,-List.getD_eq_getElem?_getD, *]
inductive P49
 |e
 |l0 (x0_5:Int)
inductive R49
 |r0 (r0:Bool)
noncomputable def T49(l:List Int)(n:Int):P49→Tr P49 R49
 |.e=>(.go (.l0 0))
 |.l0 x0_5=>let c1:=decide (0≤x0_5)&&decide (x0_5<(l.length:Int));let c2:=l.getD (x0_5).toNat tint.zero;let c3:=decide (c2<(0:Int));let c4:Tr P49 R49:=.need (inR .i64 (x0_5+(1:Int))) (.go (.l0 (x0_5+(1:Int))));let c5:=decide (x0_5>(0:Int));let c6:=x0_5-(1:Int);let c7:=decide (c2≥n);let c8:Tr P49 R49:=.out (.r0 false);(.br (decide (x0_5<(l.length:Int))) (.br c3 (.front [] [(5,true)] ((c1&&((c3==true)&&true))&&true) true (.lit true c8)) (.br c7 (.front [] [(5,false),(13,true)] ((c1&&((c3==false)&&(c1&&((c7==true)&&true))))&&true) true (.lit true c8)) (.br c5 (.front [] [(5,false),(13,false),(16,true)] ((c1&&((c3==false)&&(c1&&((c7==false)&&((c5==true)&&(c1&&((inR .i64 c6)&&((decide (0≤c6)&&decide (c6<(l.length:Int)))&&true))))))))&&true) true (.br (decide (c2≤(l.getD (c6).toNat tint.zero))) c8 c4)) (.front [] [(5,false),(13,false),(16,false)] ((c1&&((c3==false)&&(c1&&((c7==false)&&((c5==false)&&true)))))&&true) true (.lit false c4))))) (.out (.r0 true)))
noncomputable def g49(l:List Int)(n:Int):P49→List Item × St
 |.e=>bd Tryz.f49 [tint.lst l,iI n] 39
 |.l0 x0_5=>(cutOf Tryz.f49 0,⟨mk 41 [(0,tint.lst l),(1,iI n),(5,iI x0_5)],[],[]⟩)
noncomputable def n49:R49→Exit × St
 |.r0 r0=>(.ret,⟨mk 41 [(4,.bool r0)],[],[]⟩)
noncomputable def v49:R49→V
 |.r0 r0=>.bool r0
theorem s49(l:List Int)(n:Int):Sm 0 (g49 l n) (T49 l n) (n49)
 |.e=>⟨400,by kernel_rfl⟩
 |.l0 _=>⟨400,by kernel_rfl⟩
theorem q49:∀r,bodyQ Tryz.prog Tryz.f49 (·=v49 r) (n49 r).1 (n49 r).2
 |.r0 r0=>bq (.bool r0) (by kernel_rfl)
theorem w49(l:List Int)(n:Int){post:V→Prop}(h:WQ (T49 l n) v49 post .e):PC 49 [tint.lst l,iI n] post:=
 PCalls.wq Tryz.func49 (s49 l n) q49 h
theorem c49(l:List Int)(n:Int)(hl:l.length≤1000)(hp:∀i,i<l.length→inR .i64 (l.getD i 0)=true):PC 49 [tint.lst l,iI n] (·=.bool (ascR l n)):=by
 have hmain:∀k i,i+k=l.length→WP Tryz.prog ⟨none,0⟩ (T49 l n) (Ends' fun r=>v49 r=.bool (((List.range l.length).drop i).all fun i=> !ascAt l n i)) (.l0 (i:Int)):=by
  intro k
  induction k with
  |zero=>
   intro i hi
   have e:(List.range l.length).drop i=[]:=List.drop_of_length_le (by simp;omega)
   have hi':¬(i:Int)<l.length:=by omega
   rw[e]
   refine WP.step ?_
   simp only[T49,Go,Ends',v49,Tr.sure,SS,hi']
   repeat' with_reducible first|intro _|apply And.intro
   all_goals simp[Go,Ends',v49,-List.getD_eq_getElem?_getD, *]
  |succ k ih=>
   intro i hi
   have hi':(i:Int)<l.length:=by omega
   have hr:inR .i64 ((i:Int)+1)=true:=inR64 (by omega) (by omega)
   have hr2:inR .i64 ((i:Int)-1)=true:=inR64 (by omega) (by omega)
   have hn:=ih (i+1) (by omega)
   have e:(List.range l.length).drop i=i::(List.range l.length).drop (i+1):=by
    have hlt:i<(List.range l.length).length:=by rw[List.length_range];omega
    rw[drop_cons 0 (List.range l.length) i hlt,List.getD_eq_getElem?_getD,List.getElem?_eq_getElem hlt,List.getElem_range];rfl
   rw[e,List.all_cons]
   have ec:((i+1:Nat):Int)=(i:Int)+1:=rfl
   rw[ec]at hn
   generalize((List.range l.length).drop (i+1)).all (fun i=> !ascAt l n i)=R at*
   clear ih e hp
   have e2:((i:Int)-1).toNat=i-1:=by omega
   unfold ascAt
   by_cases g1:l.getD i 0<0
   ·refine WP.step ?_
    simp only[T49,Go,Ends',v49,Tr.sure,SS,hi',g1,z1,Int.toNat_natCast]
    repeat' with_reducible first|intro _|apply And.intro
    all_goals simp[hr,g1,Go,Ends',v49,-List.getD_eq_getElem?_getD, *]
   ·by_cases g2:n≤l.getD i 0
    ·refine WP.step ?_
     simp only[T49,Go,Ends',v49,Tr.sure,SS,hi',g1,g2,z1,Int.toNat_natCast]
     repeat' with_reducible first|intro _|apply And.intro
     all_goals simp[hr,g1,g2,Go,Ends',v49,-List.getD_eq_getElem?_getD, *]
    ·by_cases g3:0<i
     ·have g3':(0:Int)<i:=by omega
      have g5:0≤(i:Int)-1:=by omega
      have g6:(i:Int)-1<l.length:=by omega
      by_cases g4:l.getD i 0≤l.getD (i-1) 0
      ·refine WP.step ?_
       simp only[T49,Go,Ends',v49,Tr.sure,SS,hi',g1,g2,g3',g4,z1,e2,Int.toNat_natCast]
       repeat' with_reducible first|intro _|apply And.intro
       all_goals first|(simp[hr,hr2,g1,g2,g3,g4,g5,g6,Go,Ends',v49,-List.getD_eq_getElem?_getD, *];done)|(simp_all [hr,hr2,g1,g2,g3,g4,g5,g6,Go,Ends',v49,-List.getD_eq_getElem?_getD];done)
      ·refine WP.step ?_
       simp only[T49,Go,Ends',v49,Tr.sure,SS,hi',g1,g2,g3',g4,z1,e2,Int.toNat_natCast]
       repeat' with_reducible first|intro _|apply And.intro
       all_goals first|(simp[hr,hr2,g1,g2,g3,g4,g5,g6,Go,Ends',v49,-List.getD_eq_getElem?_getD, *];done)|(simp_all [hr,hr2,g1,g2,g3,g4,g5,g6,Go,Ends',v49,-List.getD_eq_getElem?_getD];done)
     ·have g3':¬(0:Int)<i:=by omega
      refine WP.step ?_
      simp only[T49,Go,Ends',v49,Tr.sure,SS,hi',g1,g2,g3',z1,e2,Int.toNat_natCast]
      repeat' with_reducible first|intro _|apply And.intro
      all_goals first|(simp[hr,hr2,g1,g2,g3,Go,Ends',v49,-List.getD_eq_getElem?_getD, *];done)|(simp_all [hr,hr2,g1,g2,g3,Go,Ends',v49,-List.getD_eq_getElem?_getD];done)
 have h0:=hmain l.length 0 (by omega)
 rw[List.drop_zero]at h0
 refine w49 l n (WP.step ?_)
 simp only[T49,Go,Ends',v49,Tr.sure,SS]
 repeat' with_reducible first|intro _|apply And.intro
 all_goals exact h0
end
noncomputable section
theorem which_in{w:Int}{n:Nat}(hw:0≤w)(hn:0<n):0≤w.tmod (n:Int)∧w.tmod (n:Int)<(n:Int):=by
 rw[Int.tmod_eq_emod_of_nonneg hw]
 exact⟨Int.emod_nonneg _ (by omega),Int.emod_lt_of_pos _ (by omega)⟩
theorem day_in{w:Int}(hw:0≤w):0≤dayR w∧dayR w≤364:=by
 have:=which_in (n:=365) hw (by decide)
 unfold dayR
 have e:((365:Nat):Int)=365:=rfl
 rw[e]at this
 omega
theorem asc_of{l:List Int}{n:Int}(h:l.Pairwise (·<·))(hi:∀x∈l,0≤x∧x<n):ascR l n=true:=by
 unfold ascR
 rw[List.all_eq_true]
 intro i hi2
 rw[List.mem_range]at hi2
 have h1:=hi _ (getD_mem 0 l i hi2)
 unfold ascAt
 have g1:¬l.getD i 0<0:=by omega
 have g2:¬n≤l.getD i 0:=by omega
 by_cases g3:0<i
 ·have:l.getD (i-1) 0<l.getD i 0:=by
   rw[List.getD_eq_getElem?_getD,List.getD_eq_getElem?_getD,List.getElem?_eq_getElem hi2,List.getElem?_eq_getElem (by omega)]
   exact List.pairwise_iff_getElem.1 h (i-1) i (by omega) hi2 (by omega)
  have g4:¬l.getD i 0≤l.getD (i-1) 0:=by omega
  simp only[g1,g2,g4,decide_false,Bool.or_false,Bool.and_false,Bool.not_false]
 ·simp only[g1,g2,g3,decide_false,Bool.or_false,Bool.false_and,Bool.not_false]
theorem filt_up(n:Nat)(p:Nat→Bool):(((List.range n).filter p).map fun(i:Nat)=>(i:Int)).Pairwise (·<·):=by
 rw[List.pairwise_map]
 exact(List.pairwise_lt_range.filter _).imp fun h=>by omega
theorem filt_asc(n:Nat)(p:Nat→Bool):ascR (((List.range n).filter p).map fun(i:Nat)=>(i:Int)) (n:Int)=true:=
 asc_of (filt_up n p) fun x hx=>by obtain⟨i,h1,_,rfl⟩:=mem_filtR.1 hx;omega
theorem filt_nodup(n:Nat)(p:Nat→Bool):(((List.range n).filter p).map fun(i:Nat)=>(i:Int)).Nodup:=(filt_up n p).imp fun h e=>by omega
theorem filt_le(n:Nat)(p:Nat→Bool):(((List.range n).filter p).map fun(i:Nat)=>(i:Int)).length≤n:=by
 have:=List.length_filter_le p (List.range n)
 rw[List.length_range]at this
 rw[List.length_map];exact this
theorem at_perm{b:Book}(h:OkBook b){t:Truth}(ht:t∈truthsR b [])(d:Int):(atR b t d).Perm (firstH b):=by
 have hln:=lineN_in b d
 exact have_in h ht (by omega)
theorem head_in{b:Book}(h:OkBook b){t:Truth}(ht:t∈truthsR b [])(d:Int){H:Int}(hh:0≤H∧H<b.bodies.length):(bodyOf (atR b t d) H).toNat<b.bodies.length∧0≤bodyOf (atR b t d) H∧(atR b t d).getD (bodyOf (atR b t d) H).toNat 0=H:=by
 have hp:=at_perm h ht d
 obtain⟨b1,b2,b3⟩:=bodyOf_in (hp.mem_iff.2 (mem_firstH.2 hh))
 have:=hp.length_eq
 rw[show(firstH b).length=b.bodies.length by simp[firstH]]at this
 exact⟨by omega,b1,b3⟩
theorem has_eq{l k:List Int}{n m:Int}(h:n∈l↔m∈k):hasN l n=hasN k m:=by rw[Bool.eq_iff_iff,hasN_iff,hasN_iff];exact h
structure Each(b:Book)(H o d:Int):Prop where
 w0:0<(whereR b H d).1.length
 o0:0<(onR b o d).1.length
 wa:ascR (whereR b H d).1 (b.bodies.length:Int)=true
 oa:ascR (onR b o d).1 (b.heads.length:Int)=true
 has:hasN (whereR b H d).1 o=hasN (onR b o d).1 H
 wm:((whereR b H d).1.length:Int)≤(manyR b d).1
 om:((onR b o d).1.length:Int)≤(manyR b d).1
 wl:(whereR b H d).1.length≤5
 ol:(onR b o d).1.length≤5
theorem each_law{b:Book}(h:OkBook b){H o d:Int}(hh:0≤H∧H<b.bodies.length)(ho:0≤o∧o<b.bodies.length)(h0:(toldR b [H] d).2=0)(h1:(toldR b [o] d).2=0)(h2:(toldR b [] d).2=0)(ht:0<(truthsR b []).length):Each b H o d:=by
 have hnb:=h.nb
 have hnh:=h.nh
 obtain⟨t,ht⟩:=List.exists_mem_of_length_pos ht
 have hat:∀t∈truthsR b [],∀i,i<b.bodies.length→0≤(atR b t d).getD i 0∧(atR b t d).getD i 0<b.bodies.length:=fun t ht i hi=>(perm_get (at_perm h ht d)).2.2.1 i hi
 have hmem:∀t∈truthsR b [],atR b t d∈((truthsR b []).map fun t=>atR b t d).foldl metN []:=fun t ht=>mem_met.2 (.inr (List.mem_map.2 ⟨t,ht,rfl⟩))
 refine⟨?_,?_,?_,?_,?_,?_,?_,?_,?_⟩
 ·rw[where_is h0]
  obtain⟨b1,b2,b3⟩:=head_in h ht d hh
  exact List.length_pos_of_mem (mem_filtR.2 ⟨_,b1,anyT_iff.2 ⟨t,ht,b3⟩,rfl⟩)
 ·rw[on_is h1]
  have:=hat t ht o.toNat (by omega)
  exact List.length_pos_of_mem (mem_filtR.2 ⟨((atR b t d).getD o.toNat 0).toNat,by omega,anyT_iff.2 ⟨t,ht,by omega⟩,rfl⟩)
 ·rw[where_is h0];exact filt_asc _ _
 ·rw[on_is h1];exact filt_asc _ _
 ·rw[where_is h0,on_is h1]
  refine has_eq ?_
  rw[mem_filtR,mem_filtR]
  constructor
  ·rintro⟨i,i1,i2,i3⟩
   refine⟨H.toNat,by omega,?_,by omega⟩
   rw[show o.toNat=i by omega,show((H.toNat:Nat):Int)=H by omega];exact i2
  ·rintro⟨i,i1,i2,i3⟩
   refine⟨o.toNat,by omega,?_,by omega⟩
   rw[←i3];exact i2
 ·rw[where_is h0,many_is h2]
  have:=nodup_len (r:=(((truthsR b []).map fun t=>atR b t d).foldl metN []).map fun own=>bodyOf own H) (filt_nodup b.bodies.length fun i=>anyT b d (truthsR b []) i H) fun c hc=>by
   obtain⟨i,i1,i2,rfl⟩:=mem_filtR.1 hc
   obtain⟨t,ht,e⟩:=anyT_iff.1 i2
   refine List.mem_map.2 ⟨_,hmem t ht,?_⟩
   obtain⟨b1,b2,b3⟩:=head_in h ht d hh
   obtain⟨p1,p2,-⟩:=perm_get (at_perm h ht d)
   have:=nodup_get p2 (by omega) (by omega) (b3.trans e.symm)
   omega
  have e:((((truthsR b []).map fun t=>atR b t d).foldl metN []).map fun own=>bodyOf own H).length=(((truthsR b []).map fun t=>atR b t d).foldl metN []).length:=by simp
  rw[e]at this
  exact Int.ofNat_le.2 this
 ·rw[on_is h1,many_is h2]
  have:=nodup_len (r:=(((truthsR b []).map fun t=>atR b t d).foldl metN []).map fun own=>own.getD o.toNat 0) (filt_nodup b.heads.length fun(i:Nat)=>anyT b d (truthsR b []) o.toNat (i:Int)) fun c hc=>by
   obtain⟨i,i1,i2,rfl⟩:=mem_filtR.1 hc
   obtain⟨t,ht,e⟩:=anyT_iff.1 i2
   exact List.mem_map.2 ⟨_,hmem t ht,e⟩
  have e:((((truthsR b []).map fun t=>atR b t d).foldl metN []).map fun own=>own.getD o.toNat 0).length=(((truthsR b []).map fun t=>atR b t d).foldl metN []).length:=by simp
  rw[e]at this
  exact Int.ofNat_le.2 this
 ·rw[where_is h0];exact Nat.le_trans (filt_le _ _) hnb
 ·rw[on_is h1];exact Nat.le_trans (filt_le _ _) (by omega)
theorem told_bad{b:Book}(h:¬(validR b=true∧b.bodies.length≠0)){n d:Int}:(toldR b [n] d).2≠0:=fun e=>by
 obtain⟨h1,h2,-⟩:=told_ok e
 have:=h2 n (by simp)
 exact h ⟨valid_of h1,by omega⟩
theorem on_bad{b:Book}{n d:Int}(h:(toldR b [n] d).2≠0):onR b n d=([],(toldR b [n] d).2):=by unfold onR;rw[if_pos h]
theorem where_bad{b:Book}{n d:Int}(h:(toldR b [n] d).2≠0):whereR b n d=([],(toldR b [n] d).2):=by unfold whereR;rw[if_pos h]
theorem many_bad{b:Book}{d:Int}(h:(toldR b [] d).2≠0):manyR b d=(0,(toldR b [] d).2):=by unfold manyR;rw[if_pos h]
inductive P11
 |e
inductive R11
 |r0 (r0:Bool)
noncomputable def T11(b:Book)(y:Nat→Int):P11→Tr P11 R11
 |.e=>let c4:=dayR (y (((2:Int)).toNat));let c6:=(b.bodies.length:Int);let c8:=(y (((1:Int)).toNat)).tmod c6;let c2:=onR b c8 c4;let c9:Tr P11 R11:=.lit false (.out (.r0 false));let c3:Tr P11 R11:=.lit false (.lit false c9);let c11:=(b.heads.length:Int);let c7:=(y (((0:Int)).toNat)).tmod c11;let c1:=whereR b c7 c4;let c12:=manyR b c4;let c13:=((c2.1.length):Int);let c14:=((c1.1.length):Int);let c15:Tr P11 R11:=.call 21 [] (.bool true) true true (.out (.r0 true));let c5:Tr P11 R11:=.call 25 [.agg (cC b),iI 0,iI 0] (.tuple [tint.lst ((onR b 0 0).1),iI ((onR b 0 0).2)]) true true (.br ((onR b 0 0).2 !=(0:Int)) c15 (.out (.r0 false)));let c16:Tr P11 R11:=.lit false c3;let c10:Tr P11 R11:=.lit false (.lit false c16);(.call 39 [.agg (cC b)] (.bool (validR b)) true true (.br (!(validR b)) (.lit true c5) (.br (c6==(0:Int)) c5 (.front [(16,41,[.int .u16 (y (((2:Int)).toNat))],iI c4)] [] (((decide (0≤(0:Int))&&decide ((0:Int)<(3:Int)))&&((decide (((0:Int)).toNat<3)&&decide (0<1))&&((inR .i64 (y (((0:Int)).toNat)))&&((decide (c11≠0))&&((decide (0≤(1:Int))&&decide ((1:Int)<(3:Int)))&&((decide (((1:Int)).toNat<3)&&decide (0<1))&&((inR .i64 (y (((1:Int)).toNat)))&&((decide (c6≠0))&&((decide (0≤(2:Int))&&decide ((2:Int)<(3:Int)))&&((decide (((2:Int)).toNat<3)&&decide (0<1))&&true))))))))))&&true) true (.call 22 [.agg (cC b),iI c7,iI c4] (.tuple [tint.lst (c1.1),iI (c1.2)]) true true (.call 25 [.agg (cC b),iI c8,iI c4] (.tuple [tint.lst (c2.1),iI (c2.2)]) true true (.call 27 [.agg (cC b),iI c4] (.tuple [iI (c12.1),iI (c12.2)]) true true (.br (c1.2 !=(0:Int)) (.br (c1.2==(8:Int)) (.br (c2.2==c1.2) (.br (c12.2==c1.2) (.need (inR .i64 (c14+c13)) (.br ((c14+c13)==(0:Int)) (.br (c12.1==(0:Int)) c15 (.out (.r0 false))) c9)) (.lit false c9)) c3) c16) (.br (c2.2==(0:Int)) (.br (c12.2==(0:Int)) (.br (decide (c14>(0:Int))) (.br (decide (c13>(0:Int))) (.call 49 [tint.lst (c1.1),iI c6] (.bool (ascR (c1.1) c6)) true true (.br (ascR (c1.1) c6) (.call 49 [tint.lst (c2.1),iI c11] (.bool (ascR (c2.1) c11)) true true (.br (ascR (c2.1) c11) (.call 44 [tint.lst (c1.1),iI c8] (.bool (hasN (c1.1) c8)) true true (.call 44 [tint.lst (c2.1),iI c7] (.bool (hasN (c2.1) c7)) true true (.br ((hasN (c1.1) c8)==(hasN (c2.1) c7)) (.br (decide (c12.1≥c14)) (.br (decide (c12.1≥c13)) c15 (.out (.r0 false))) c9) (.lit false c9)))) c3)) c16)) (.lit false c16)) c10) (.lit false c10)) (.lit false (.lit false c10)))))))))))
noncomputable def g11(b:Book)(y:Nat→Int):P11→List Item × St
 |.e=>bd Tryz.f11 [.agg (cC b),.arr 1 3 (rowsFn tu16 y)] 153
noncomputable def n11:R11→Exit × St
 |.r0 r0=>(.ret,⟨mk 155 [(4,.bool r0)],[],[]⟩)
noncomputable def v11:R11→V
 |.r0 r0=>.bool r0
theorem s11(b:Book)(y:Nat→Int):Sm 0 (g11 b y) (T11 b y) (n11)
 |.e=>⟨400,by kernel_rfl⟩
theorem q11:∀r,bodyQ Tryz.prog Tryz.f11 (·=v11 r) (n11 r).1 (n11 r).2
 |.r0 r0=>bq (.bool r0) (by kernel_rfl)
theorem w11(b:Book)(y:Nat→Int){post:V→Prop}(h:WQ (T11 b y) v11 post .e):PC 11 [.agg (cC b),.arr 1 3 (rowsFn tu16 y)] post:=
 PCalls.wq Tryz.func11 (s11 b y) q11 h
set_option maxHeartbeats 4000000 in
theorem c11(b:Book)(y:Nat→Int)(hy:∀i,i<3→0≤y i∧y i≤65535):PC 11 [.agg (tBook.cells b),.arr 1 3 (rowsFn tu16 y)] (·=.bool true):=by
 have y0:=hy 0 (by omega)
 have y1:=hy 1 (by omega)
 have y2:=hy 2 (by omega)
 have r0:inR .i64 (y 0)=true:=inR64 (by omega) (by omega)
 have r1:inR .i64 (y 1)=true:=inR64 (by omega) (by omega)
 have r2:inR .i64 (y 2)=true:=inR64 (by omega) (by omega)
 have k41:=c41 (y 2) r2
 have k39:=c39 b
 by_cases hv:validR b=true
 ·have hok:=valid_ok hv
  rw[hv]at k39
  have hnb:=hok.nb
  have hnh:=hok.nh
  by_cases hz:b.bodies.length=0
  ·have hz':((b.bodies.length:Int)==0)=true:=by simp[hz]
   have hb:=told_bad (b:=b) (n:=0) (d:=0) (fun q=>q.2 hz)
   have e:=on_bad hb
   have k25:=c25 b 0 0
   rw[e]at k25
   refine w11 b y (WP.step ?_)
   simp only[T11,Go,Ends',v11,Tr.sure,SS,hv,hz',e]
   repeat' with_reducible first|intro _|apply And.intro
   all_goals first|exact k39|exact k25|exact c21|(simp_all [hb,Go,Ends',v11,-List.getD_eq_getElem?_getD];done)
  ·have hz':((b.bodies.length:Int)==0)=false:=beq_eq_false_iff_ne.2 (by omega)
   have hz2:¬(b.bodies.length:Int)=0:=by omega
   have hz3:¬(b.heads.length:Int)=0:=by omega
   have hH:=which_in (n:=b.heads.length) y0.1 (by omega)
   have hO:=which_in (n:=b.bodies.length) y1.1 (by omega)
   have hD:=day_in y2.1
   rw[hnh]at hH hz3
   generalize hHH:(y 0).tmod (b.bodies.length:Int)=H at*
   generalize hOO:(y 1).tmod (b.bodies.length:Int)=o at*
   generalize hDD:dayR (y 2)=d at*
   have k22:=c22 b H d
   have k25:=c25 b o d
   have k27:=c27 b d
   by_cases ht:(truthsR b []).length=0
   ·have e1:=told_eight hok (one_in hH) hD ht
    have e2:=told_eight hok (one_in hO) hD ht
    have e3:=told_eight hok (ns:=[]) (by simp) hD ht
    have w1:=where_bad (b:=b) (n:=H) (d:=d) (by rw[e1];decide)
    have w2:=on_bad (b:=b) (n:=o) (d:=d) (by rw[e2];decide)
    have w3:=many_bad (b:=b) (d:=d) (by rw[e3];decide)
    rw[e1]at w1
    rw[e2]at w2
    rw[e3]at w3
    rw[w1]at k22
    rw[w2]at k25
    rw[w3]at k27
    have hr:inR .i64 ((([]:List Int).length:Int)+(([]:List Int).length:Int))=true:=by decide
    refine w11 b y (WP.step ?_)
    simp only[T11,Go,Ends',v11,Tr.sure,SS,hv,hz',i0,i1,i2,hnh,hHH,hOO,hDD,w1,w2,w3]
    repeat' with_reducible first|intro _|apply And.intro
    all_goals first|exact k39|exact k22|exact k25|exact k27|exact k41|exact c21|(simp[r0,r1,r2,hz,hz2,hz3,hr,Go,Ends',v11,-List.getD_eq_getElem?_getD, *];done)|(simp_all [r0,r1,r2,hz,hz2,hz3,hr,Go,Ends',v11,-List.getD_eq_getElem?_getD];done)
   ·have e1:=told_zero hok (one_in hH) hD (by omega)
    have e2:=told_zero hok (one_in hO) hD (by omega)
    have e3:=told_zero hok (ns:=[]) (by simp) hD (by omega)
    have E:=each_law hok hH hO e1 e2 e3 (by omega)
    obtain⟨E1,E2,E3,E4,E5,E6,E7,E8,E9⟩:=E
    have w1:(whereR b H d).2=0:=by rw[where_is e1]
    have w2:(onR b o d).2=0:=by rw[on_is e2]
    have w3:(manyR b d).2=0:=by rw[many_is e3]
    rw[w1]at k22
    rw[w2]at k25
    rw[w3]at k27
    have p1:∀i,i<(whereR b H d).1.length→inR .i64 ((whereR b H d).1.getD i 0)=true:=fun i hi=>by
     have:=getD_mem 0 _ i hi
     rw[where_is e1]at this⊢
     obtain⟨j,j1,_,j3⟩:=mem_filtR.1 this
     rw[←j3];exact inR64 (by omega) (by omega)
    have p2:∀i,i<(onR b o d).1.length→inR .i64 ((onR b o d).1.getD i 0)=true:=fun i hi=>by
     have:=getD_mem 0 _ i hi
     rw[on_is e2]at this⊢
     obtain⟨j,j1,_,j3⟩:=mem_filtR.1 this
     rw[←j3];exact inR64 (by omega) (by omega)
    have k49:=c49 (whereR b H d).1 (b.bodies.length:Int) (by omega) p1
    have k49b:=c49 (onR b o d).1 (b.heads.length:Int) (by omega) p2
    have k44:=c44 (whereR b H d).1 o
    have k44b:=c44 (onR b o d).1 H
    rw[E5]at k44
    rw[hnh]at E4 k49b
    rw[E3]at k49
    rw[E4]at k49b
    have hr:inR .i64 (((whereR b H d).1.length:Int)+((onR b o d).1.length:Int))=true:=inR64 (by omega) (by omega)
    have E1':((whereR b H d).1.length:Int)>0:=by omega
    have E2':((onR b o d).1.length:Int)>0:=by omega
    have E6':(manyR b d).1≥((whereR b H d).1.length:Int):=E6
    have E7':(manyR b d).1≥((onR b o d).1.length:Int):=E7
    clear p1 p2 e1 e2 e3
    refine w11 b y (WP.step ?_)
    simp only[T11,Go,Ends',v11,Tr.sure,SS,hv,hz',i0,i1,i2,hnh,hHH,hOO,hDD,w1,w2,w3,E1',E2',E3,E4,E5,E6',E7']
    repeat' with_reducible first|intro _|apply And.intro
    all_goals first|exact k39|exact k22|exact k25|exact k27|exact k41|exact k49|exact k49b|exact k44|exact k44b|exact c21|(simp[r0,r1,r2,hz,hz2,hz3,hr,Go,Ends',v11,-List.getD_eq_getElem?_getD, *];done)
 ·have hv':validR b=false:=by simpa using hv
  rw[hv']at k39
  have hb:=told_bad (b:=b) (n:=0) (d:=0) (fun q=>hv q.1)
  have e:=on_bad hb
  have k25:=c25 b 0 0
  rw[e]at k25
  refine w11 b y (WP.step ?_)
  simp only[T11,Go,Ends',v11,Tr.sure,SS,hv',e]
  repeat' with_reducible first|intro _|apply And.intro
  all_goals first|exact k39|exact k25|exact c21|(simp_all [hb,Go,Ends',v11,-List.getD_eq_getElem?_getD];done)
end
end Go.Proofs.YtemgodefhcbleaaGreat
