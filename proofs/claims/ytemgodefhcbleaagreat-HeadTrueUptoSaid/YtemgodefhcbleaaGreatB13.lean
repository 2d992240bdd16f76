/-
  Part of the proof of the Head laws. Conditions: those that stand in each theorem.
-/
import Derived.Test.YtemgodefhcbleaaGreatB12
set_option linter.unusedSimpArgs false
set_option linter.unusedVariables false
set_option maxRecDepth 100000
namespace Go.Proofs.YtemgodefhcbleaaGreat
open Ab Go
noncomputable section
theorem ysB_get{b:Book}{but:Int}{k:Nat}{us:List V}(h:(ysB b but)[k]? =some (.tuple us)):∃t,(truthsR b (butL b but))[k]? =some t/\us=[.agg [.list 2 b.lines.length (rowsOf tPair t.pairs),.list 5 (b.lines.length+1) (rowsOf tHave (t.haves.map fnH))]]:=by
 unfold ysB at h;rw[List.getElem?_map]at h
 cases hf:(truthsR b (butL b but))[k]? with
 |none=>rw[hf]at h;cases h
 |some t=>
  rw[hf]at h;have hy:yT b t=.tuple us:=Option.some.inj h;exact⟨t,rfl,by unfold yT yV at hy;cases hy;rfl⟩
theorem have_fn{b:Book}(h:OkBook b){t:Truth}{but:List Int}(ht:t∈truthsR b but){k:Nat}(hk:k<=b.lines.length):(t.haves.map fnH).getD k tHave.zero=fnH (t.haves.getD k []):=by
 have hl:=(truthsR_in h ht).nh;rw[gE,List.getElem?_map,gE,List.getElem?_eq_getElem (by omega)];rfl
theorem five(G:Nat->Int):VLe (.list 1 5 (litC 1 5 [iI (G 0),iI (G 1),iI (G 2),iI (G 3),iI (G 4)])) (tint.lst [G 0,G 1,G 2,G 3,G 4]):=VLe.lit tint [G 0,G 1,G 2,G 3,G 4] rfl rfl (fun _=>rfl)
theorem anyT_snoc(b:Book)(day:Int)(l:List Truth)(t:Truth)(i:Nat)(h:Int):anyT b day (l++ [t]) i h=(anyT b day l i h||(atR b t day).getD i 0==h):=by unfold anyT;rw[List.any_append];simp
theorem take_get{τ:Type}{l:List τ}{k:Nat}{t:τ}(h:l[k]? =some t):l.take (k+1)=l.take k++ [t]:=by rw[List.take_add_one,h];rfl
theorem freeI(l:List Blk)(h:∀b∈l,b=.gone\/∃n,b=.cells [iI n])(i:Nat)(k:Blk)(hk:l[i]? =some k):BlkFree k:=by
 rcases h k (List.mem_of_getElem? hk)with rfl|⟨n,rfl⟩
 ·trivial
 ·rfl
inductive P22a
 |e
inductive R22a
 |r0 (r0:Int) (r1:Int) (r2:Int)
def T22a(n:Nat)(P:List Pair)(H:List (Nat->Int))(hd:Int)(p:Nat->Bool)(ln:Nat):P22a->Tr P22a R22a
 |.e=>(.out (.r0 hd (setI p) (ln:Int)))
noncomputable def g22a(n:Nat)(P:List Pair)(H:List (Nat->Int))(hd:Int)(p:Nat->Bool)(ln:Nat):P22a->List Item × St
 |.e=>([.code (asgOf (rangeOf Tryz.f22))],⟨[uU,uU,uU,uU,.ref 1 0 0,uU,uU,uU,uU,uU,.ref 3 0 0,.ref 4 0 0,uU,uU,uU,uU,uU,uU,uU,uU,uU,uU,uU,uU,uU,uU,uU,uU,uU,.agg [.list 2 n (rowsOf tPair P),.list 5 (n+1) (rowsOf tHave H)],uU,uU,uU,uU,uU,uU,uU,uU,uU,uU,uU,uU],[.gone,.cells [iI hd],.gone,.cells [iI (setI p)],.cells [iI (ln:Int)]],[]⟩)
def n22a(n:Nat)(P:List Pair)(H:List (Nat->Int))(hd:Int)(p:Nat->Bool)(ln:Nat):R22a->Exit × St
 |.r0 r0 r1 r2=>(.normal,⟨mk 42 [(4,.ref 1 0 0),(10,.ref 3 0 0),(11,.ref 4 0 0),(12,.ref 5 0 0)],[.gone,.cells [iI r0],.gone,.cells [iI r1],.cells [iI r2],.cells [.list 2 n (rowsOf tPair P),.list 5 (n+1) (rowsOf tHave H)]],[]⟩)
theorem s22a(n:Nat)(P:List Pair)(H:List (Nat->Int))(hd:Int)(p:Nat->Bool)(ln:Nat):Sm 5 (g22a n P H hd p ln) (T22a n P H hd p ln) (n22a n P H hd p ln)
 |.e=>⟨400,by kernel_rfl⟩
inductive P22b
 |e
inductive R22b
 |r0 (r0:Int) (r1:Int) (r2:Int)
def T22b(n:Nat)(P:List Pair)(H:List (Nat->Int))(hd:Int)(p:Nat->Bool)(ln:Nat)(ix:Nat):P22b->Tr P22b R22b
 |.e=>let c1:=H.getD ((ln:Int)).toNat tHave.zero;let c2:=(1:Int)*2^(min ((ix:Int)).toNat 64);(.front [(7,78,[.list 1 5 (litC 1 5 [iI (c1 0),iI (c1 1),iI (c1 2),iI (c1 3),iI (c1 4)]),iI hd],iI (ix:Int))] [] ((true&&(true&&(true&&(true&&((decide (0<=(ln:Int))&&decide ((ln:Int)<((n+1):Int)))&&(true&&(true&&(true&&((decide (0<=(ix:Int))&&inR .i64 c2)&&(true&&true))))))))))&&true) true (.out (.r0 hd (bitsOf .or .i64 (setI p) c2) (ln:Int))))
noncomputable def g22b(n:Nat)(P:List Pair)(H:List (Nat->Int))(hd:Int)(p:Nat->Bool)(ln:Nat)(ix:Nat):P22b->List Item × St
 |.e=>([.code (bdyOf (rangeOf Tryz.f22))],⟨[uU,uU,uU,uU,.ref 1 0 0,uU,uU,uU,uU,uU,.ref 3 0 0,.ref 4 0 0,.ref 5 0 0,uU,uU,uU,uU,uU,uU,uU,uU,uU,uU,uU,uU,uU,uU,uU,uU,uU,uU,uU,uU,uU,uU,uU,uU,uU,uU,uU,uU,uU],[.gone,.cells [iI hd],.gone,.cells [iI (setI p)],.cells [iI (ln:Int)],.cells [.list 2 n (rowsOf tPair P),.list 5 (n+1) (rowsOf tHave H)]],[]⟩)
def n22b(n:Nat)(P:List Pair)(H:List (Nat->Int))(hd:Int)(p:Nat->Bool)(ln:Nat)(ix:Nat):R22b->Exit × St
 |.r0 r0 r1 r2=>(.normal,⟨mk 42 [],[.gone,.cells [iI r0],.gone,.cells [iI r1],.cells [iI r2]],[]⟩)
theorem s22b(n:Nat)(P:List Pair)(H:List (Nat->Int))(hd:Int)(p:Nat->Bool)(ln:Nat)(ix:Nat):Sm 5 (g22b n P H hd p ln ix) (T22b n P H hd p ln ix) (n22b n P H hd p ln ix)
 |.e=>⟨400,by kernel_rfl⟩
def pWhere(b:Book)(head day:Int)(l:List Truth):Nat->Bool:=fun i=>decide (i<b.bodies.length)&&anyT b day l i head
theorem pWhere_step(b:Book)(head day:Int){l l':List Truth}{t:Truth}{hv:List Int}(ha:atR b t day=hv)(hl:l'=l++ [t])(i:Nat):pWhere b head day l' i=(pWhere b head day l i||(decide (i<b.bodies.length)&&hv.getD i 0==head)):=by
 unfold pWhere;rw[hl,anyT_snoc,ha];cases decide (i<b.bodies.length)<;>rfl
theorem body22(l:Nat)(n:Nat)(P:List Pair)(H:List (Nat->Int))(hd:Int)(p:Nat->Bool)(ln ix:Nat)(hln:ln<=n)(hix:ix<5)(hv:(H.getD ln tHave.zero) ix=hd)(hn:∀j,j<ix->(H.getD ln tHave.zero) j≠hd):
  AWP Tryz.prog ⟨some l,5⟩ (bdyOf (rangeOf Tryz.f22)) (g22b n P H hd p ln ix .e).2 fun e S2=>e=.normal/\S2.h=[.gone,.cells [iI hd],.gone,.cells [iI (setI fun i=>p i||ix==i)],.cells [iI (ln:Int)]]:=by
 have hln':(ln:Int)<((n+1:Nat):Int):=by omega
 have hln2:(ln:Int)<(n:Int)+1:=by omega
 have hor:=setI_or p hix;have hsh:=shl_in hix;generalize hG:H.getD ln tHave.zero=G at*
 have hget:∀j,j<5->([G 0,G 1,G 2,G 3,G 4]:List Int).getD j 0=G j:=fun j hj=>by
  rcases show j=0\/j=1\/j=2\/j=3\/j=4 by omega with rfl|rfl|rfl|rfl|rfl<;>rfl
 have k78:=PCalls.arg (pre:=[]) (suf:=[iI hd]) (c78 [G 0,G 1,G 2,G 3,G 4] hd ix (by simp) (by simpa using hix) (by rw[hget ix hix];exact hv) (fun j hj=>by rw[hget j (by omega)];exact hn j hj)) (five G);refine AWP.wp mx (T22b n P H hd p ln ix) (g22b n P H hd p ln ix) (n22b n P H hd p ln ix) .e rfl (s22b n P H hd p ln ix) (post:=fun r=>(n22b n P H hd p ln ix r).1=.normal/\(n22b n P H hd p ln ix r).2.h=[.gone,.cells [iI hd],.gone,.cells [iI (setI fun i=>p i||ix==i)],.cells [iI (ln:Int)]]) ?_ (fun r hr=>hr)
 rw[<-hor];refine WP.step ?_;simp only[T22b,Go,Ends',Tr.sure,SS,hG,Int.toNat_natCast];repeat' with_reducible first|intro _|apply aI
 all_goals first|exact k78|(simp[hsh,Go,Ends',-List.getD_eq_getElem?_getD, *];done)|(simp_all [hsh,Go,Ends',-List.getD_eq_getElem?_getD];done)|skip
 all_goals exact rfl
abbrev t22(b:Book):List V:=[uU,uU,uU,uU,.ref 1 0 0,uU,uU,uU,uU,uU,.ref 3 0 0,.ref 4 0 0]++List.replicate 16 uU++ [trF b 0]++List.replicate 13 uU
theorem range22(b:Book)(h:OkBook b)(head day:Int)(ln:Nat)(hln:lineN b day=(ln:Int))(hv:0<=head/\head<b.bodies.length):
  AWP Tryz.prog ⟨none,0⟩ (rangeOf Tryz.f22) ⟨t22 b,[.cells (tBook.cells b),.cells [iI head],.gone,.cells [iI 0],.cells [iI (ln:Int)]],[]⟩ (fun e T=>e=.normal/\T=⟨t22 b,[.cells (tBook.cells b),.cells [iI head],.gone,.cells [iI (setI (pWhere b head day (truthsR b [])))],.cells [iI (ln:Int)],.obj (.deferred (some []))],[5]⟩):=by
 have e:rangeOf Tryz.f22=.rangeFunc (.tmp 28) #[29] (asgOf (rangeOf Tryz.f22)) (bdyOf (rangeOf Tryz.f22)):=by kernel_rfl
 have hb5:=h.nb;have hln2:=lineN_in b day;rw[hln]at hln2;have hlen:(ysB b 0).length=(truthsR b []).length:=by unfold ysB;rw[List.length_map,butL_zero]
 have hfull:(truthsR b []).take (ysB b 0).length=truthsR b []:=by rw[hlen,List.take_length]
 have h00:setI (pWhere b head day ((truthsR b []).take 0))=0:=(setI_congr (q:=fun _=>false) fun i _=>by simp[pWhere,anyT]).trans rfl;rw[e]
 refine(AWP.rangeVT (fs:=[true]) (T:=t22 b) (H:=fun k=>[.gone,.cells [iI head],.gone,.cells [iI (setI (pWhere b head day ((truthsR b []).take k)))],.cells [iI (ln:Int)]]) (f:=110) (ys:=ysB b 0) (caps:=[rR (lk (lookOf b)),rR (iI 0)])
  rfl rfl (fun i hi hv=> ?_) rfl (fun j=>.inl rfl) rfl rfl (PCalls.enters Tryz.func110 (c:=Tryz.f110.body.getD .skip) (by kernel_rfl) (by kernel_rfl)) (c110 b h 0) (by show[_,_,_,Blk.cells [iI (setI _)],_]=_;rw[h00];rfl) (fun _=>rfl) (fun _=>rfl) (fun l k us hu=> ?_) (fun q i k hk=>freeI _ (fun b hb=> ?_) i k hk)).mono fun e T q=>⟨q.1,by rw[q.2,hfull];rfl⟩
 ·match i,hi,hv with
  |0,_,hv=>cases hv
  |i+1,hi,_=>simp at hi
 ·obtain⟨t,ht,rfl⟩:=ysB_get hu;rw[butL_zero]at ht;refine⟨rfl,?_⟩;refine AWP.forget (t:=(setPs [29] [.agg [.list 2 b.lines.length (rowsOf tPair t.pairs),.list 5 (b.lines.length+1) (rowsOf tHave (t.haves.map fnH))]] (t22 b)).set 28 uU) (by simp) (forget_set _ 28) ?_
  refine AWP.wp mx (T22a b.lines.length t.pairs (t.haves.map fnH) head (pWhere b head day ((truthsR b []).take k)) ln) (g22a b.lines.length t.pairs (t.haves.map fnH) head (pWhere b head day ((truthsR b []).take k)) ln) (n22a b.lines.length t.pairs (t.haves.map fnH) head (pWhere b head day ((truthsR b []).take k)) ln) .e rfl (s22a b.lines.length t.pairs (t.haves.map fnH) head (pWhere b head day ((truthsR b []).take k)) ln)
   (post:=fun r=>(n22a b.lines.length t.pairs (t.haves.map fnH) head (pWhere b head day ((truthsR b []).take k)) ln r).1=.normal/\(n22a b.lines.length t.pairs (t.haves.map fnH) head (pWhere b head day ((truthsR b []).take k)) ln r).2=(g22b b.lines.length t.pairs (t.haves.map fnH) head (pWhere b head day ((truthsR b []).take k)) ln 0 .e).2) ?_ (fun r hr=> ?_)
  ·refine WP.step ?_;simp only[T22a,Go,Ends',Tr.sure,SS];repeat' with_reducible first|intro _|apply aI
   all_goals exact rfl
  ·rw[hr.2];refine⟨hr.1,rfl,?_⟩;have hmem:=List.mem_of_getElem? ht;obtain⟨g1,g2,g3,g4⟩:=perm_get (have_in h hmem (k:=ln) (by omega));have hfn:=have_fn h hmem (k:=ln) (by omega);have hat:atR b t day=t.haves.getD ln []:=by unfold atR;rw[hln,Int.toNat_natCast]
   have hpk:=pWhere_step b head day hat (take_get ht);obtain⟨ix,i1,i2⟩:=g4 head hv.1 hv.2
   have hnx:setI (pWhere b head day ((truthsR b []).take (k+1)))=setI fun i=>pWhere b head day ((truthsR b []).take k) i||ix==i:=by
    refine setI_congr fun i hi=> ?_;rw[hpk];congr 1
    rw[Bool.eq_iff_iff,Bool.and_eq_true,decide_eq_true_eq,beq_iff_eq,beq_iff_eq];constructor
    ·rintro⟨q1,q2⟩
     exact nodup_get g2 (by omega) (by omega) (i2.trans q2.symm)
    ·rintro rfl;exact⟨i1,i2⟩
   rw[hnx];refine body22 l b.lines.length t.pairs (t.haves.map fnH) head _ ln ix (by omega) (by omega) ?_ (fun j hj=> ?_)
   ·rw[hfn,fnH_get (by omega) (by omega)];exact i2
   ·rw[hfn,fnH_get (by omega) (by omega)];intro q;have:=nodup_get g2 (by omega) (by omega) (q.trans i2.symm);omega
 ·simp only[List.mem_cons,List.not_mem_nil,or_false]at hb;rcases hb with rfl|rfl|rfl|rfl|rfl
  ·exact .inl rfl
  ·exact .inr ⟨_,rfl⟩
  ·exact .inl rfl
  ·exact .inr ⟨_,rfl⟩
  ·exact .inr ⟨_,rfl⟩
inductive P22y
 |e
inductive R22y
 |r0 (r1:Int)
 |r1 (r0:List Int) (r1:Int)
def T22y(b:Book)(head:Int)(day:Int):P22y->Tr P22y R22y
 |.e=>let c1:List V:=[uU,uU,uU,uU,.ref 1 0 0,uU,uU,uU,uU,uU,.ref 3 0 0,.ref 4 0 0,uU,uU,uU,uU,uU,uU,uU,uU,uU,uU,uU,uU,uU,uU,uU,uU,fG 110 [rR (lk (lookOf b)),rR (iI 0)],uU,uU,uU,uU,uU,uU,uU,uU,uU,uU,uU,uU,uU];let c2:=setI (pWhere b head day (truthsR b []));(.wait 4 (.frz 2 ((decide (1<=1))&&true) (.wait 0 (.vle 17 (.list 1 1 (litC 1 1 [iI head])) (tint.lst ([head]:List Int)) (.call 74 [.agg (cC b),iI day,tint.lst ([head]:List Int)] (.tuple [lk (lookOf b),iI 0]) true true (.br ((0:Int) !=(0:Int)) (.out (.r0 0)) (.call 77 [lk (lookOf b),iI day] (iI (lineN b day)) true true (.call 75 [lk (lookOf b),iI 0] (fG 110 [rR (lk (lookOf b)),rR (iI 0)]) true true (.wait 1 (.drop ⟨[uU,uU,uU,uU,.nil,uU,uU,uU,uU,uU,.nil,.nil,uU,uU,uU,uU,uU,uU,uU,uU,uU,uU,uU,uU,uU,uU,uU,uU,.nil,uU,uU,uU,uU,uU,uU,uU,uU,uU,uU,uU,uU,uU],[.void,.void,.void,.void,.void],[]⟩ (.over (rangeOf Tryz.f22) ⟨c1,[.cells (cC b),.cells [iI head],.gone,.cells [iI 0],.cells [iI (lineN b day)]],[]⟩ .normal ⟨c1,[.cells (cC b),.cells [iI head],.gone,.cells [iI c2],.cells [iI (lineN b day)],.obj (.deferred (some []))],[5]⟩ true (.call 79 [iI c2] (tint.lst (listR c2)) true true (.out (.r1 (listR c2) 0))))))))))))))
noncomputable def g22y(b:Book)(head:Int)(day:Int):P22y->List Item × St
 |.e=>bd Tryz.f22 [.agg (cC b),iI head,iI day] 39
def n22y(b:Book)(head:Int)(day:Int):R22y->Exit × St
 |.r0 r1=>(.ret,⟨mk 42 [(6,.nils),(7,iI r1)],[],[]⟩)
 |.r1 r0 r1=>(.ret,⟨mk 42 [(6,tint.lst r0),(7,iI r1)],[.gone,.gone,.gone,.gone,.gone,.obj (.deferred (some []))],[5]⟩)
def v22y(b:Book)(head:Int)(day:Int):R22y->V
 |.r0 r1=>.tuple [tint.lst ([]:List Int),iI r1]
 |.r1 r0 r1=>.tuple [tint.lst r0,iI r1]
theorem s22y(b:Book)(head:Int)(day:Int):Sm 0 (g22y b head day) (T22y b head day) (n22y b head day)
 |.e=>⟨400,by kernel_rfl⟩
theorem q22y(b:Book)(head:Int)(day:Int):∀r,bodyQ Tryz.prog Tryz.f22 (·=v22y b head day r) (n22y b head day r).1 (n22y b head day r).2
 |.r0 r1=>⟨.inr rfl,by simp[n22y],(.tuple [.nils,iI r1]),(.tuple [tint.lst ([]:List Int),iI r1]),by kernel_rfl,(.tuple rfl fun j hj=>match j,hj with|0,_=>.weak (.imm rfl) VLe.nils|1,_=>.imm rfl),rfl⟩
 |.r1 r0 r1=>⟨.inr rfl,by simp[n22y],(.tuple [tint.lst r0,iI r1]),(.tuple [tint.lst r0,iI r1]),by kernel_rfl,(.imm rfl),rfl⟩
theorem w22y(b:Book)(head:Int)(day:Int){post:V->Prop}(h:WP Tryz.prog ⟨none,0⟩ (T22y b head day) (Ends' fun r=>post (v22y b head day r)) .e):PC 22 [.agg (cC b),iI head,iI day] post:=
 PCalls.wq Tryz.func22 (s22y b head day) (q22y b head day) h
inductive P22n
 |e
inductive R22n
 |r0 (r1:Int)
def T22n(b:Book)(head:Int)(day:Int):P22n->Tr P22n R22n
 |.e=>let c1:=toldR b [head] day;(.call 74 [.agg (cC b),iI day,.list 1 1 (litC 1 1 [iI head])] (.tuple [.nil,iI (c1.2)]) ((decide (1<=1))&&true) true (.br (c1.2 !=(0:Int)) (.out (.r0 (c1.2))) (.wait 2 .never)))
noncomputable def g22n(b:Book)(head:Int)(day:Int):P22n->List Item × St
 |.e=>bd Tryz.f22 [.agg (cC b),iI head,iI day] 39
def n22n(b:Book)(head:Int)(day:Int):R22n->Exit × St
 |.r0 r1=>(.ret,⟨mk 42 [(6,.nils),(7,iI r1)],[],[]⟩)
def v22n(b:Book)(head:Int)(day:Int):R22n->V
 |.r0 r1=>.tuple [tint.lst ([]:List Int),iI r1]
theorem s22n(b:Book)(head:Int)(day:Int):Sm 0 (g22n b head day) (T22n b head day) (n22n b head day)
 |.e=>⟨400,by kernel_rfl⟩
theorem q22n(b:Book)(head:Int)(day:Int):∀r,bodyQ Tryz.prog Tryz.f22 (·=v22n b head day r) (n22n b head day r).1 (n22n b head day r).2
 |.r0 r1=>⟨.inr rfl,by simp[n22n],(.tuple [.nils,iI r1]),(.tuple [tint.lst ([]:List Int),iI r1]),by kernel_rfl,(.tuple rfl fun j hj=>match j,hj with|0,_=>.weak (.imm rfl) VLe.nils|1,_=>.imm rfl),rfl⟩
theorem w22n(b:Book)(head:Int)(day:Int){post:V->Prop}(h:WP Tryz.prog ⟨none,0⟩ (T22n b head day) (Ends' fun r=>post (v22n b head day r)) .e):PC 22 [.agg (cC b),iI head,iI day] post:=
 PCalls.wq Tryz.func22 (s22n b head day) (q22n b head day) h
theorem c22(b:Book)(head day:Int):PC 22 [.agg (tBook.cells b),iI head,iI day] (·=.tuple [tint.lst (whereR b head day).1,iI (whereR b head day).2]):=by
 have k74:=c74 b day [head];have hlit:VLe (.list 1 1 (litC 1 1 [iI head])) (tint.lst [head]):=VLe.lit tint [head] rfl rfl (fun _=>rfl);by_cases h0:(toldR b [head] day).2=0
 ·obtain⟨hok,hns,hday,hne,htl⟩:=told_ok h0;have hv:=hns head (by simp)
  have hP:whereR b head day=(listR (setI (pWhere b head day (truthsR b []))),0):=by
   unfold whereR;rw[if_neg (fun q=>q h0),listR_set _ hok.nb (fun i hi _=>by unfold pWhere;rw[decide_eq_false (by omega)];rfl)];congr 2
   refine List.filter_congr fun i hi=> ?_;unfold pWhere;rw[decide_eq_true (List.mem_range.1 hi)];rfl
  rw[if_pos h0,h0]at k74
  obtain⟨ln,hln⟩:∃ln:Nat,lineN b day=(ln:Int):=⟨_,(Int.toNat_of_nonneg (lineN_in b day).1).symm⟩
  have k77:=c77 b hok day;have k75:=c75 (lookOf b) 0;have k79:=c79 (setI (pWhere b head day (truthsR b [])));have hr:=range22 b hok head day ln hln hv;rw[<-hln]at hr;rw[hP];refine w22y b head day (WP.step ?_);simp only[T22y,Go,Ends',v22y,Tr.sure,SS];repeat' with_reducible first|intro _|apply aI
  all_goals first|exact k74|exact k75|exact k77|exact k79|exact(by with_reducible exact hlit)|exact hr|(simp[Go,Ends',v22y,-List.getD_eq_getElem?_getD, *];done)
 ·have hP:whereR b head day=([],(toldR b [head] day).2):=by unfold whereR;rw[if_pos h0]
  rw[if_neg h0]at k74;rw[hP];refine w22n b head day (WP.step ?_);simp only[T22n,Go,Ends',v22n,Tr.sure,SS,h0];repeat' with_reducible first|intro _|apply aI
  all_goals first|exact(PCalls.arg (pre:=[.agg (tBook.cells b),iI day]) k74 hlit)|(simp[h0,Go,Ends',v22n,-List.getD_eq_getElem?_getD, *];done)
inductive P25a
 |e
inductive R25a
 |r0 (r0:Int) (r1:Int) (r2:Int)
def T25a(n:Nat)(P:List Pair)(H:List (Nat->Int))(hd:Int)(p:Nat->Bool)(ln:Nat):P25a->Tr P25a R25a
 |.e=>(.out (.r0 hd (setI p) (ln:Int)))
noncomputable def g25a(n:Nat)(P:List Pair)(H:List (Nat->Int))(hd:Int)(p:Nat->Bool)(ln:Nat):P25a->List Item × St
 |.e=>([.code (asgOf (rangeOf Tryz.f25))],⟨[uU,uU,uU,uU,.ref 1 0 0,uU,uU,uU,uU,uU,.ref 3 0 0,.ref 4 0 0,uU,uU,uU,uU,uU,uU,uU,uU,uU,uU,uU,uU,uU,uU,uU,uU,uU,.agg [.list 2 n (rowsOf tPair P),.list 5 (n+1) (rowsOf tHave H)],uU,uU,uU,uU,uU,uU,uU,uU,uU,uU,uU,uU],[.gone,.cells [iI hd],.gone,.cells [iI (setI p)],.cells [iI (ln:Int)]],[]⟩)
def n25a(n:Nat)(P:List Pair)(H:List (Nat->Int))(hd:Int)(p:Nat->Bool)(ln:Nat):R25a->Exit × St
 |.r0 r0 r1 r2=>(.normal,⟨mk 42 [(4,.ref 1 0 0),(10,.ref 3 0 0),(11,.ref 4 0 0),(12,.ref 5 0 0)],[.gone,.cells [iI r0],.gone,.cells [iI r1],.cells [iI r2],.cells [.list 2 n (rowsOf tPair P),.list 5 (n+1) (rowsOf tHave H)]],[]⟩)
theorem s25a(n:Nat)(P:List Pair)(H:List (Nat->Int))(hd:Int)(p:Nat->Bool)(ln:Nat):Sm 5 (g25a n P H hd p ln) (T25a n P H hd p ln) (n25a n P H hd p ln)
 |.e=>⟨400,by kernel_rfl⟩
inductive P25b
 |e
inductive R25b
 |r0 (r0:Int) (r1:Int) (r2:Int)
def T25b(n:Nat)(P:List Pair)(H:List (Nat->Int))(hd:Int)(p:Nat->Bool)(ln:Nat):P25b->Tr P25b R25b
 |.e=>let c1:=H.getD ((ln:Int)).toNat tHave.zero;let c2:=decide (0<=(ln:Int))&&decide ((ln:Int)<((n+1):Int));let c3:=true&&true;let c4:=(1:Int)*2^(min ((c1 4)).toNat 64);let c5:=(1:Int)*2^(min ((c1 3)).toNat 64);let c6:=(1:Int)*2^(min ((c1 2)).toNat 64);let c7:=(1:Int)*2^(min ((c1 1)).toNat 64);let c8:=(1:Int)*2^(min ((c1 0)).toNat 64);(.wait 1 (.cas (decide (hd=0)) (.telc 1 [iI hd] [iI 0] (.front [] [] ((true&&(true&&(true&&(true&&(true&&(c2&&(((decide (0<=(0:Int))&&decide ((0:Int)<(5:Int)))&&true)&&(true&&((decide (0<=(c1 0))&&inR .i64 c8)&&c3)))))))))&&true) true (.out (.r0 0 (bitsOf .or .i64 (setI p) c8) (ln:Int))))) (.cas (decide (hd=1)) (.telc 1 [iI hd] [iI 1] (.front [] [] ((true&&(true&&(true&&(true&&(true&&(c2&&(((decide (0<=(1:Int))&&decide ((1:Int)<(5:Int)))&&true)&&(true&&((decide (0<=(c1 1))&&inR .i64 c7)&&c3)))))))))&&true) true (.out (.r0 1 (bitsOf .or .i64 (setI p) c7) (ln:Int))))) (.cas (decide (hd=2)) (.telc 1 [iI hd] [iI 2] (.front [] [] ((true&&(true&&(true&&(true&&(true&&(c2&&(((decide (0<=(2:Int))&&decide ((2:Int)<(5:Int)))&&true)&&(true&&((decide (0<=(c1 2))&&inR .i64 c6)&&c3)))))))))&&true) true (.out (.r0 2 (bitsOf .or .i64 (setI p) c6) (ln:Int))))) (.cas (decide (hd=3)) (.telc 1 [iI hd] [iI 3] (.front [] [] ((true&&(true&&(true&&(true&&(true&&(c2&&(((decide (0<=(3:Int))&&decide ((3:Int)<(5:Int)))&&true)&&(true&&((decide (0<=(c1 3))&&inR .i64 c5)&&c3)))))))))&&true) true (.out (.r0 3 (bitsOf .or .i64 (setI p) c5) (ln:Int))))) (.cas (decide (hd=4)) (.telc 1 [iI hd] [iI 4] (.front [] [] ((true&&(true&&(true&&(true&&(true&&(c2&&(((decide (0<=(4:Int))&&decide ((4:Int)<(5:Int)))&&true)&&(true&&((decide (0<=(c1 4))&&inR .i64 c4)&&c3)))))))))&&true) true (.out (.r0 4 (bitsOf .or .i64 (setI p) c4) (ln:Int))))) .never))))))
noncomputable def g25b(n:Nat)(P:List Pair)(H:List (Nat->Int))(hd:Int)(p:Nat->Bool)(ln:Nat):P25b->List Item × St
 |.e=>([.code (bdyOf (rangeOf Tryz.f25))],⟨[uU,uU,uU,uU,.ref 1 0 0,uU,uU,uU,uU,uU,.ref 3 0 0,.ref 4 0 0,.ref 5 0 0,uU,uU,uU,uU,uU,uU,uU,uU,uU,uU,uU,uU,uU,uU,uU,uU,uU,uU,uU,uU,uU,uU,uU,uU,uU,uU,uU,uU,uU],[.gone,.cells [iI hd],.gone,.cells [iI (setI p)],.cells [iI (ln:Int)],.cells [.list 2 n (rowsOf tPair P),.list 5 (n+1) (rowsOf tHave H)]],[]⟩)
def n25b(n:Nat)(P:List Pair)(H:List (Nat->Int))(hd:Int)(p:Nat->Bool)(ln:Nat):R25b->Exit × St
 |.r0 r0 r1 r2=>(.normal,⟨mk 42 [],[.gone,.cells [iI r0],.gone,.cells [iI r1],.cells [iI r2]],[]⟩)
theorem s25b(n:Nat)(P:List Pair)(H:List (Nat->Int))(hd:Int)(p:Nat->Bool)(ln:Nat):Sm 5 (g25b n P H hd p ln) (T25b n P H hd p ln) (n25b n P H hd p ln)
 |.e=>⟨400,by kernel_rfl⟩
def pOn(b:Book)(body day:Int)(l:List Truth):Nat->Bool:=fun h=>anyT b day l body.toNat (h:Int)
theorem pOn_step(b:Book)(body day:Int){l l':List Truth}{t:Truth}{hv:List Int}(ha:atR b t day=hv)(hl:l'=l++ [t])(i:Nat):pOn b body day l' i=(pOn b body day l i||hv.getD body.toNat 0==(i:Int)):=by
 unfold pOn;rw[hl,anyT_snoc,ha]
theorem pOn_off{b:Book}(h:OkBook b){body day:Int}(hns:∀n∈ [body],0<=n/\n<b.bodies.length)(hday:0<=day/\day<=364)(i:Nat)(hi:b.heads.length<=i)(_:i<5):pOn b body day (truthsR b []) i=false:=by
 have hv:=hns body (by simp);unfold pOn anyT;rw[List.any_eq_false];intro t ht;have hin:=lineN_in b day;obtain⟨_,_,g3,_⟩:=perm_get (have_in h ht (k:=(lineN b day).toNat) (by omega));have:=g3 body.toNat (by omega);rw[h.nh]at hi;unfold atR;rw[Bool.not_eq_true,beq_eq_false_iff_ne];omega
theorem body25(l:Nat)(n:Nat)(P:List Pair)(H:List (Nat->Int))(hd:Int)(p:Nat->Bool)(ln ix:Nat)(hln:ln<=n)(hix:ix<5)(h0:0<=hd/\hd<5)(hv:(H.getD ln tHave.zero) hd.toNat=(ix:Int)):
  AWP Tryz.prog ⟨some l,5⟩ (bdyOf (rangeOf Tryz.f25)) (g25b n P H hd p ln .e).2 fun e S2=>e=.normal/\S2.h=[.gone,.cells [iI hd],.gone,.cells [iI (setI fun i=>p i||ix==i)],.cells [iI (ln:Int)]]:=by
 have hln':(ln:Int)<((n+1:Nat):Int):=by omega
 have hln2:(ln:Int)<(n:Int)+1:=by omega
 have hor:=setI_or p hix;have hsh:=shl_in hix;generalize hG:H.getD ln tHave.zero=G at*
 refine AWP.wp mx (T25b n P H hd p ln) (g25b n P H hd p ln) (n25b n P H hd p ln) .e rfl (s25b n P H hd p ln) (post:=fun r=>(n25b n P H hd p ln r).1=.normal/\(n25b n P H hd p ln r).2.h=[.gone,.cells [iI hd],.gone,.cells [iI (setI fun i=>p i||ix==i)],.cells [iI (ln:Int)]]) ?_ (fun r hr=>hr);rw[<-hor];rcases show hd=0\/hd=1\/hd=2\/hd=3\/hd=4 by omega with rfl|rfl|rfl|rfl|rfl
 all_goals simp only[Int.toNat_zero,Int.toNat_one,Int.reduceToNat]at hv
 ·refine WP.step ?_;simp only[T25b,Go,Ends',Tr.sure,SS,hG,hv,Int.toNat_natCast,Int.reduceEq];repeat' with_reducible first|intro _|apply aI
  all_goals first|exact(VLe.refl _)|(simp[hsh,Go,Ends',-List.getD_eq_getElem?_getD, *];done)|(simp_all [hsh,Go,Ends',-List.getD_eq_getElem?_getD];done)|skip
  all_goals exact rfl
 ·refine WP.step ?_;simp only[T25b,Go,Ends',Tr.sure,SS,hG,hv,Int.toNat_natCast,Int.reduceEq];repeat' with_reducible first|intro _|apply aI
  all_goals first|exact(VLe.refl _)|(simp[hsh,Go,Ends',-List.getD_eq_getElem?_getD, *];done)|(simp_all [hsh,Go,Ends',-List.getD_eq_getElem?_getD];done)|skip
  all_goals exact rfl
 ·refine WP.step ?_;simp only[T25b,Go,Ends',Tr.sure,SS,hG,hv,Int.toNat_natCast,Int.reduceEq];repeat' with_reducible first|intro _|apply aI
  all_goals first|exact(VLe.refl _)|(simp[hsh,Go,Ends',-List.getD_eq_getElem?_getD, *];done)|(simp_all [hsh,Go,Ends',-List.getD_eq_getElem?_getD];done)|skip
  all_goals exact rfl
 ·refine WP.step ?_;simp only[T25b,Go,Ends',Tr.sure,SS,hG,hv,Int.toNat_natCast,Int.reduceEq];repeat' with_reducible first|intro _|apply aI
  all_goals first|exact(VLe.refl _)|(simp[hsh,Go,Ends',-List.getD_eq_getElem?_getD, *];done)|(simp_all [hsh,Go,Ends',-List.getD_eq_getElem?_getD];done)|skip
  all_goals exact rfl
 ·refine WP.step ?_;simp only[T25b,Go,Ends',Tr.sure,SS,hG,hv,Int.toNat_natCast,Int.reduceEq];repeat' with_reducible first|intro _|apply aI
  all_goals first|exact(VLe.refl _)|(simp[hsh,Go,Ends',-List.getD_eq_getElem?_getD, *];done)|(simp_all [hsh,Go,Ends',-List.getD_eq_getElem?_getD];done)|skip
  all_goals exact rfl
abbrev t25(b:Book):List V:=[uU,uU,uU,uU,.ref 1 0 0,uU,uU,uU,uU,uU,.ref 3 0 0,.ref 4 0 0]++List.replicate 16 uU++ [trF b 0]++List.replicate 13 uU
theorem range25(b:Book)(h:OkBook b)(body day:Int)(ln:Nat)(hln:lineN b day=(ln:Int))(hv:0<=body/\body<b.bodies.length):
  AWP Tryz.prog ⟨none,0⟩ (rangeOf Tryz.f25) ⟨t25 b,[.cells (tBook.cells b),.cells [iI body],.gone,.cells [iI 0],.cells [iI (ln:Int)]],[]⟩ (fun e T=>e=.normal/\T=⟨t25 b,[.cells (tBook.cells b),.cells [iI body],.gone,.cells [iI (setI (pOn b body day (truthsR b [])))],.cells [iI (ln:Int)],.obj (.deferred (some []))],[5]⟩):=by
 have e:rangeOf Tryz.f25=.rangeFunc (.tmp 28) #[29] (asgOf (rangeOf Tryz.f25)) (bdyOf (rangeOf Tryz.f25)):=by kernel_rfl
 have hb5:=h.nb;have hln2:=lineN_in b day;rw[hln]at hln2;have hlen:(ysB b 0).length=(truthsR b []).length:=by unfold ysB;rw[List.length_map,butL_zero]
 have hfull:(truthsR b []).take (ysB b 0).length=truthsR b []:=by rw[hlen,List.take_length]
 have h00:setI (pOn b body day ((truthsR b []).take 0))=0:=(setI_congr (q:=fun _=>false) fun i _=>by simp[pOn,anyT]).trans rfl;rw[e]
 refine(AWP.rangeVT (fs:=[true]) (T:=t25 b) (H:=fun k=>[.gone,.cells [iI body],.gone,.cells [iI (setI (pOn b body day ((truthsR b []).take k)))],.cells [iI (ln:Int)]]) (f:=110) (ys:=ysB b 0) (caps:=[rR (lk (lookOf b)),rR (iI 0)])
  rfl rfl (fun i hi hv=> ?_) rfl (fun j=>.inl rfl) rfl rfl (PCalls.enters Tryz.func110 (c:=Tryz.f110.body.getD .skip) (by kernel_rfl) (by kernel_rfl)) (c110 b h 0) (by show[_,_,_,Blk.cells [iI (setI _)],_]=_;rw[h00];rfl) (fun _=>rfl) (fun _=>rfl) (fun l k us hu=> ?_) (fun q i k hk=>freeI _ (fun b hb=> ?_) i k hk)).mono fun e T q=>⟨q.1,by rw[q.2,hfull];rfl⟩
 ·match i,hi,hv with
  |0,_,hv=>cases hv
  |i+1,hi,_=>simp at hi
 ·obtain⟨t,ht,rfl⟩:=ysB_get hu;rw[butL_zero]at ht;refine⟨rfl,?_⟩;refine AWP.forget (t:=(setPs [29] [.agg [.list 2 b.lines.length (rowsOf tPair t.pairs),.list 5 (b.lines.length+1) (rowsOf tHave (t.haves.map fnH))]] (t25 b)).set 28 uU) (by simp) (forget_set _ 28) ?_
  refine AWP.wp mx (T25a b.lines.length t.pairs (t.haves.map fnH) body (pOn b body day ((truthsR b []).take k)) ln) (g25a b.lines.length t.pairs (t.haves.map fnH) body (pOn b body day ((truthsR b []).take k)) ln) (n25a b.lines.length t.pairs (t.haves.map fnH) body (pOn b body day ((truthsR b []).take k)) ln) .e rfl (s25a b.lines.length t.pairs (t.haves.map fnH) body (pOn b body day ((truthsR b []).take k)) ln)
   (post:=fun r=>(n25a b.lines.length t.pairs (t.haves.map fnH) body (pOn b body day ((truthsR b []).take k)) ln r).1=.normal/\(n25a b.lines.length t.pairs (t.haves.map fnH) body (pOn b body day ((truthsR b []).take k)) ln r).2=(g25b b.lines.length t.pairs (t.haves.map fnH) body (pOn b body day ((truthsR b []).take k)) ln .e).2) ?_ (fun r hr=> ?_)
  ·refine WP.step ?_;simp only[T25a,Go,Ends',Tr.sure,SS];repeat' with_reducible first|intro _|apply aI
   all_goals exact rfl
  ·rw[hr.2];refine⟨hr.1,rfl,?_⟩;have hmem:=List.mem_of_getElem? ht;obtain⟨g1,g2,g3,g4⟩:=perm_get (have_in h hmem (k:=ln) (by omega));have hfn:=have_fn h hmem (k:=ln) (by omega);have hat:atR b t day=t.haves.getD ln []:=by unfold atR;rw[hln,Int.toNat_natCast]
   have hpk:=pOn_step b body day hat (take_get ht);obtain⟨w1,w2⟩:=g3 body.toNat (by omega)
   obtain⟨ix,hix⟩:∃ix:Nat,(t.haves.getD ln []).getD body.toNat 0=(ix:Int):=⟨_,(Int.toNat_of_nonneg w1).symm⟩
   have hnx:setI (pOn b body day ((truthsR b []).take (k+1)))=setI fun i=>pOn b body day ((truthsR b []).take k) i||ix==i:=by
    refine setI_congr fun i hi=> ?_;rw[hpk,hix];congr 1
    rw[Bool.eq_iff_iff,beq_iff_eq,beq_iff_eq];omega
   rw[hnx];refine body25 l b.lines.length t.pairs (t.haves.map fnH) body _ ln ix (by omega) (by omega) ⟨hv.1,by omega⟩ ?_;rw[hfn,fnH_get (by omega) (by omega)];exact hix
 ·simp only[List.mem_cons,List.not_mem_nil,or_false]at hb;rcases hb with rfl|rfl|rfl|rfl|rfl
  ·exact .inl rfl
  ·exact .inr ⟨_,rfl⟩
  ·exact .inl rfl
  ·exact .inr ⟨_,rfl⟩
  ·exact .inr ⟨_,rfl⟩
inductive P25y
 |e
inductive R25y
 |r0 (r1:Int)
 |r1 (r0:List Int) (r1:Int)
def T25y(b:Book)(body:Int)(day:Int):P25y->Tr P25y R25y
 |.e=>let c1:List V:=[uU,uU,uU,uU,.ref 1 0 0,uU,uU,uU,uU,uU,.ref 3 0 0,.ref 4 0 0,uU,uU,uU,uU,uU,uU,uU,uU,uU,uU,uU,uU,uU,uU,uU,uU,fG 110 [rR (lk (lookOf b)),rR (iI 0)],uU,uU,uU,uU,uU,uU,uU,uU,uU,uU,uU,uU,uU];let c2:=setI (pOn b body day (truthsR b []));(.wait 4 (.frz 2 ((decide (1<=1))&&true) (.wait 0 (.vle 17 (.list 1 1 (litC 1 1 [iI body])) (tint.lst ([body]:List Int)) (.call 74 [.agg (cC b),iI day,tint.lst ([body]:List Int)] (.tuple [lk (lookOf b),iI 0]) true true (.br ((0:Int) !=(0:Int)) (.out (.r0 0)) (.call 77 [lk (lookOf b),iI day] (iI (lineN b day)) true true (.call 75 [lk (lookOf b),iI 0] (fG 110 [rR (lk (lookOf b)),rR (iI 0)]) true true (.wait 1 (.drop ⟨[uU,uU,uU,uU,.nil,uU,uU,uU,uU,uU,.nil,.nil,uU,uU,uU,uU,uU,uU,uU,uU,uU,uU,uU,uU,uU,uU,uU,uU,.nil,uU,uU,uU,uU,uU,uU,uU,uU,uU,uU,uU,uU,uU],[.void,.void,.void,.void,.void],[]⟩ (.over (rangeOf Tryz.f25) ⟨c1,[.cells (cC b),.cells [iI body],.gone,.cells [iI 0],.cells [iI (lineN b day)]],[]⟩ .normal ⟨c1,[.cells (cC b),.cells [iI body],.gone,.cells [iI c2],.cells [iI (lineN b day)],.obj (.deferred (some []))],[5]⟩ true (.call 79 [iI c2] (tint.lst (listR c2)) true true (.out (.r1 (listR c2) 0))))))))))))))
noncomputable def g25y(b:Book)(body:Int)(day:Int):P25y->List Item × St
 |.e=>bd Tryz.f25 [.agg (cC b),iI body,iI day] 39
def n25y(b:Book)(body:Int)(day:Int):R25y->Exit × St
 |.r0 r1=>(.ret,⟨mk 42 [(6,.nils),(7,iI r1)],[],[]⟩)
 |.r1 r0 r1=>(.ret,⟨mk 42 [(6,tint.lst r0),(7,iI r1)],[.gone,.gone,.gone,.gone,.gone,.obj (.deferred (some []))],[5]⟩)
def v25y(b:Book)(body:Int)(day:Int):R25y->V
 |.r0 r1=>.tuple [tint.lst ([]:List Int),iI r1]
 |.r1 r0 r1=>.tuple [tint.lst r0,iI r1]
theorem s25y(b:Book)(body:Int)(day:Int):Sm 0 (g25y b body day) (T25y b body day) (n25y b body day)
 |.e=>⟨400,by kernel_rfl⟩
theorem q25y(b:Book)(body:Int)(day:Int):∀r,bodyQ Tryz.prog Tryz.f25 (·=v25y b body day r) (n25y b body day r).1 (n25y b body day r).2
 |.r0 r1=>⟨.inr rfl,by simp[n25y],(.tuple [.nils,iI r1]),(.tuple [tint.lst ([]:List Int),iI r1]),by kernel_rfl,(.tuple rfl fun j hj=>match j,hj with|0,_=>.weak (.imm rfl) VLe.nils|1,_=>.imm rfl),rfl⟩
 |.r1 r0 r1=>⟨.inr rfl,by simp[n25y],(.tuple [tint.lst r0,iI r1]),(.tuple [tint.lst r0,iI r1]),by kernel_rfl,(.imm rfl),rfl⟩
theorem w25y(b:Book)(body:Int)(day:Int){post:V->Prop}(h:WP Tryz.prog ⟨none,0⟩ (T25y b body day) (Ends' fun r=>post (v25y b body day r)) .e):PC 25 [.agg (cC b),iI body,iI day] post:=
 PCalls.wq Tryz.func25 (s25y b body day) (q25y b body day) h
inductive P25n
 |e
inductive R25n
 |r0 (r1:Int)
def T25n(b:Book)(body:Int)(day:Int):P25n->Tr P25n R25n
 |.e=>let c1:=toldR b [body] day;(.call 74 [.agg (cC b),iI day,.list 1 1 (litC 1 1 [iI body])] (.tuple [.nil,iI (c1.2)]) ((decide (1<=1))&&true) true (.br (c1.2 !=(0:Int)) (.out (.r0 (c1.2))) (.wait 2 .never)))
noncomputable def g25n(b:Book)(body:Int)(day:Int):P25n->List Item × St
 |.e=>bd Tryz.f25 [.agg (cC b),iI body,iI day] 39
def n25n(b:Book)(body:Int)(day:Int):R25n->Exit × St
 |.r0 r1=>(.ret,⟨mk 42 [(6,.nils),(7,iI r1)],[],[]⟩)
def v25n(b:Book)(body:Int)(day:Int):R25n->V
 |.r0 r1=>.tuple [tint.lst ([]:List Int),iI r1]
theorem s25n(b:Book)(body:Int)(day:Int):Sm 0 (g25n b body day) (T25n b body day) (n25n b body day)
 |.e=>⟨400,by kernel_rfl⟩
theorem q25n(b:Book)(body:Int)(day:Int):∀r,bodyQ Tryz.prog Tryz.f25 (·=v25n b body day r) (n25n b body day r).1 (n25n b body day r).2
 |.r0 r1=>⟨.inr rfl,by simp[n25n],(.tuple [.nils,iI r1]),(.tuple [tint.lst ([]:List Int),iI r1]),by kernel_rfl,(.tuple rfl fun j hj=>match j,hj with|0,_=>.weak (.imm rfl) VLe.nils|1,_=>.imm rfl),rfl⟩
theorem w25n(b:Book)(body:Int)(day:Int){post:V->Prop}(h:WP Tryz.prog ⟨none,0⟩ (T25n b body day) (Ends' fun r=>post (v25n b body day r)) .e):PC 25 [.agg (cC b),iI body,iI day] post:=
 PCalls.wq Tryz.func25 (s25n b body day) (q25n b body day) h
theorem c25(b:Book)(body day:Int):PC 25 [.agg (tBook.cells b),iI body,iI day] (·=.tuple [tint.lst (onR b body day).1,iI (onR b body day).2]):=by
 have k74:=c74 b day [body];have hlit:VLe (.list 1 1 (litC 1 1 [iI body])) (tint.lst [body]):=VLe.lit tint [body] rfl rfl (fun _=>rfl);by_cases h0:(toldR b [body] day).2=0
 ·obtain⟨hok,hns,hday,hne,htl⟩:=told_ok h0;have hv:=hns body (by simp)
  have hP:onR b body day=(listR (setI (pOn b body day (truthsR b []))),0):=by
   unfold onR;rw[if_neg (fun q=>q h0),listR_set _ (n:=b.heads.length) (by rw[hok.nh];exact hok.nb) (pOn_off hok hns hday)];rfl
  rw[if_pos h0,h0]at k74
  obtain⟨ln,hln⟩:∃ln:Nat,lineN b day=(ln:Int):=⟨_,(Int.toNat_of_nonneg (lineN_in b day).1).symm⟩
  have k77:=c77 b hok day;have k75:=c75 (lookOf b) 0;have k79:=c79 (setI (pOn b body day (truthsR b [])));have hr:=range25 b hok body day ln hln hv;rw[<-hln]at hr;rw[hP];refine w25y b body day (WP.step ?_);simp only[T25y,Go,Ends',v25y,Tr.sure,SS];repeat' with_reducible first|intro _|apply aI
  all_goals first|exact k74|exact k75|exact k77|exact k79|exact(by with_reducible exact hlit)|exact hr|(simp[Go,Ends',v25y,-List.getD_eq_getElem?_getD, *];done)
 ·have hP:onR b body day=([],(toldR b [body] day).2):=by unfold onR;rw[if_pos h0]
  rw[if_neg h0]at k74;rw[hP];refine w25n b body day (WP.step ?_);simp only[T25n,Go,Ends',v25n,Tr.sure,SS,h0];repeat' with_reducible first|intro _|apply aI
  all_goals first|exact(PCalls.arg (pre:=[.agg (tBook.cells b),iI day]) k74 hlit)|(simp[h0,Go,Ends',v25n,-List.getD_eq_getElem?_getD, *];done)
end
noncomputable section
abbrev KM:=List ((Nat->Int) × Int)
abbrev mO(M:KM):Obj:=.map (entsK M) M.length
def idxM(M:KM)(F:Nat->Int):Nat:=M.findIdx fun p=>same5 F p.1
def cntM(M:KM)(F:Nat->Int):Int:=(M.getD (idxM M F) (F,0)).2
def entM(M:KM)(F:Nat->Int):KM:=if idxM M F<M.length then M else M++ [(F,0)]
def addM(M:KM)(F:Nat->Int):KM:=(entM M F).set (idxM M F) (((entM M F).getD (idxM M F) (F,0)).1,cntM M F+1)
inductive P27a
 |e
inductive R27a
 |r0 (r0:Int) (r1:Nat->Int)
def T27a(n:Nat)(P:List Pair)(H:List (Nat->Int))(ln:Nat)(M:KM)(La:Nat->Int):P27a->Tr P27a R27a
 |.e=>(.out (.r0 (ln:Int) La))
noncomputable def g27a(n:Nat)(P:List Pair)(H:List (Nat->Int))(ln:Nat)(M:KM)(La:Nat->Int):P27a->List Item × St
 |.e=>([.code (asgOf (rangeOf Tryz.f27))],⟨[uU,uU,uU,uU,uU,uU,uU,uU,.ref 1 0 0,.ref 3 0 0,.ref 4 0 0,uU,uU,uU,uU,uU,uU,uU,uU,uU,uU,uU,uU,uU,uU,uU,uU,uU,.agg [.list 2 n (rowsOf tPair P),.list 5 (n+1) (rowsOf tHave H)],uU,uU,uU,uU,uU,uU,uU,uU,uU,uU,uU,uU,uU,uU,uU,uU,uU],[.gone,.cells [iI (ln:Int)],.obj (mO M),.cells [.map 2],.rows 128 1 5 (rowsFn tint La)],[]⟩)
def n27a(n:Nat)(P:List Pair)(H:List (Nat->Int))(ln:Nat)(M:KM)(La:Nat->Int):R27a->Exit × St
 |.r0 r0 r1=>(.normal,⟨mk 46 [(8,.ref 1 0 0),(9,.ref 3 0 0),(10,.ref 4 0 0),(11,.ref 5 0 0)],[.gone,.cells [iI r0],.obj (mO M),.cells [.map 2],.rows 128 1 5 (rowsFn tint r1),.cells [.list 2 n (rowsOf tPair P),.list 5 (n+1) (rowsOf tHave H)]],[]⟩)
theorem s27a(n:Nat)(P:List Pair)(H:List (Nat->Int))(ln:Nat)(M:KM)(La:Nat->Int):Sm 5 (g27a n P H ln M La) (T27a n P H ln M La) (n27a n P H ln M La)
 |.e=>⟨400,by kernel_rfl⟩
inductive P27b
 |e
inductive R27b
 |r0 (r0:Int) (r1:Nat->Int)
 |r1 (r0:Int) (r1:Nat->Int)
def T27b(n:Nat)(P:List Pair)(H:List (Nat->Int))(ln:Nat)(M:KM)(La:Nat->Int):P27b->Tr P27b R27b
 |.e=>let c1:=H.getD ((ln:Int)).toNat tHave.zero;let c2:= !(((c1 0)==(La 0))&&(((c1 1)==(La 1))&&(((c1 2)==(La 2))&&(((c1 3)==(La 3))&&(((c1 4)==(La 4))&&true)))));let c3:List V:=[iI (c1 0),iI (c1 1),iI (c1 2),iI (c1 3),iI (c1 4)];let c4:=rowsFn tint c1;let c5:List V:=[.list 2 n (rowsOf tPair P),.list 5 (n+1) (rowsOf tHave H)];let c6:=rowsFn tint La;(.need (decide (0<=(ln:Int))&&decide ((ln:Int)<((n+1):Int))) (.wait 1 (.telb 6 1 5 (fun r j=>(c3:List V).getD (r*1+j) uU) c4 (.br c2 (.wait 1 (.over (regionOf Tryz.f27 11) ⟨[uU,uU,uU,uU,uU,uU,uU,uU,.ref 1 0 0,.ref 3 0 0,.ref 4 0 0,.ref 5 0 0,.ref 6 0 0,uU,uU,uU,uU,uU,uU,uU,uU,uU,uU,uU,uU,uU,uU,uU,uU,.ref 5 0 1,.list 5 (n+1) (rowsOf tHave H),iI (ln:Int),.cref 5 fun q=>(c3:List V).getD q uU,.agg c3,.arr 1 5 c4,.arr 1 5 c6,.bool c2,uU,uU,uU,uU,uU,uU,uU,uU,uU],[.gone,.cells [iI (ln:Int)],.obj (mO M),.cells [.map 2],.rows 128 1 5 c6,.cells c5,.rows 128 1 5 c4],[]⟩ .normal ⟨[uU,uU,uU,uU,uU,uU,uU,uU,.ref 1 0 0,.ref 3 0 0,.ref 4 0 0,.ref 5 0 0,.ref 6 0 0,uU,uU,uU,uU,uU,uU,uU,uU,uU,uU,uU,uU,uU,uU,uU,uU,.ref 5 0 1,.list 5 (n+1) (rowsOf tHave H),iI (ln:Int),.cref 5 fun q=>(c3:List V).getD q uU,.agg c3,.arr 1 5 c4,.arr 1 5 c6,.bool c2,.map 2,.arr 1 5 c4,iI (cntM M c1),iI ((cntM M c1)+(1:Int)),.tuple [iI (cntM M c1),iI (idxM M c1:Int)],iI (idxM M c1:Int),uU,uU,uU],[.gone,.cells [iI (ln:Int)],.obj (mO (addM M c1)),.cells [.map 2],.rows 128 1 5 c6,.cells c5,.rows 128 1 5 c4],[]⟩ true (.out (.r0 (ln:Int) c1)))) (.out (.r1 (ln:Int) La))))))
noncomputable def g27b(n:Nat)(P:List Pair)(H:List (Nat->Int))(ln:Nat)(M:KM)(La:Nat->Int):P27b->List Item × St
 |.e=>([.code (bdyOf (rangeOf Tryz.f27))],⟨[uU,uU,uU,uU,uU,uU,uU,uU,.ref 1 0 0,.ref 3 0 0,.ref 4 0 0,.ref 5 0 0,uU,uU,uU,uU,uU,uU,uU,uU,uU,uU,uU,uU,uU,uU,uU,uU,uU,uU,uU,uU,uU,uU,uU,uU,uU,uU,uU,uU,uU,uU,uU,uU,uU,uU],[.gone,.cells [iI (ln:Int)],.obj (mO M),.cells [.map 2],.rows 128 1 5 (rowsFn tint La),.cells [.list 2 n (rowsOf tPair P),.list 5 (n+1) (rowsOf tHave H)]],[]⟩)
def n27b(n:Nat)(P:List Pair)(H:List (Nat->Int))(ln:Nat)(M:KM)(La:Nat->Int):R27b->Exit × St
 |.r0 r0 r1=>(.normal,⟨mk 46 [],[.gone,.cells [iI r0],.obj (mO (addM M (H.getD ((ln:Int)).toNat tHave.zero))),.cells [.map 2],.rows 128 1 5 (rowsFn tint r1)],[]⟩)
 |.r1 r0 r1=>(.normal,⟨mk 46 [],[.gone,.cells [iI r0],.obj (mO M),.cells [.map 2],.rows 128 1 5 (rowsFn tint r1)],[]⟩)
theorem s27b(n:Nat)(P:List Pair)(H:List (Nat->Int))(ln:Nat)(M:KM)(La:Nat->Int):Sm 5 (g27b n P H ln M La) (T27b n P H ln M La) (n27b n P H ln M La)
 |.e=>⟨400,by kernel_rfl⟩
def o27_11:Array Oper:=(regOf 11 (Tryz.f27.body.getD .skip)).getD #[]
@[reducible] def st27_11 (n:Nat) (P:List Pair) (H:List (Nat->Int)) (ln:Nat) (M:KM) (La:Nat->Int) (lq:Nat) (c:Nat->Bool):St:=⟨[uU,uU,uU,uU,uU,uU,uU,uU,.ref 1 0 0,.ref 3 0 0,.ref 4 0 0,.ref 5 0 0,.ref 6 0 0,uU,uU,uU,uU,uU,uU,uU,uU,uU,uU,uU,uU,uU,uU,uU,uU,.ref 5 0 1,.list 5 (n+1) (rowsOf tHave H),iI (ln:Int),.cref 5 fun q=>([iI ((H.getD ((ln:Int)).toNat tHave.zero) 0),iI ((H.getD ((ln:Int)).toNat tHave.zero) 1),iI ((H.getD ((ln:Int)).toNat tHave.zero) 2),iI ((H.getD ((ln:Int)).toNat tHave.zero) 3),iI ((H.getD ((ln:Int)).toNat tHave.zero) 4)]:List V).getD q uU,.agg [iI ((H.getD ((ln:Int)).toNat tHave.zero) 0),iI ((H.getD ((ln:Int)).toNat tHave.zero) 1),iI ((H.getD ((ln:Int)).toNat tHave.zero) 2),iI ((H.getD ((ln:Int)).toNat tHave.zero) 3),iI ((H.getD ((ln:Int)).toNat tHave.zero) 4)],.arr 1 5 (rowsFn tint (H.getD ((ln:Int)).toNat tHave.zero)),.arr 1 5 (rowsFn tint La),.bool (!((((H.getD ((ln:Int)).toNat tHave.zero) 0)==(La 0))&&((((H.getD ((ln:Int)).toNat tHave.zero) 1)==(La 1))&&((((H.getD ((ln:Int)).toNat tHave.zero) 2)==(La 2))&&((((H.getD ((ln:Int)).toNat tHave.zero) 3)==(La 3))&&((((H.getD ((ln:Int)).toNat tHave.zero) 4)==(La 4))&&true)))))),(bif c 0 then .map 2 else(uU)),(bif c 1 then .arr 1 5 (rowsFn tint (H.getD ((ln:Int)).toNat tHave.zero))else(uU)),(bif c 2 then iI (cntM M (H.getD ((ln:Int)).toNat tHave.zero))else(uU)),(bif c 3 then iI ((cntM M (H.getD ((ln:Int)).toNat tHave.zero))+(1:Int))else(uU)),(bif c 4 then .tuple [iI (cntM M (H.getD ((ln:Int)).toNat tHave.zero)),iI (idxM M (H.getD ((ln:Int)).toNat tHave.zero):Int)]else(uU)),(bif c 5 then iI (idxM M (H.getD ((ln:Int)).toNat tHave.zero):Int)else(uU)),uU,uU,uU],[.gone,.cells [iI (ln:Int)],(bif c 4 then .obj (mO (entM M (H.getD ((ln:Int)).toNat tHave.zero)))else(.obj (mO M))),.cells [.map 2],.rows 128 1 5 (rowsFn tint La),.cells [.list 2 n (rowsOf tPair P),.list 5 (n+1) (rowsOf tHave H)],.rows 128 1 5 (rowsFn tint (H.getD ((ln:Int)).toNat tHave.zero))],[]⟩
def t27_11:Tab:=[([],[1]),([],[0]),([0,1],[4,5]),([0,1,2],[4,5]),([0,1],[2,3]),([0,1,4],[2,3])]
theorem ov27_11(n:Nat)(P:List Pair)(H:List (Nat->Int))(ln:Nat)(M:KM)(La:Nat->Int)(lq:Nat)(hL:∀hh:List Blk,(hh[2]? =some (mK M)\/hh[2]? =some (mK (entM M (H.getD ((ln:Int)).toNat tHave.zero))))->SemOK Tryz.prog (.lookup 131 (.tmp 37) (.tmp 38) false) [(.tmp 37,.map 2),(.tmp 38,.arr 1 5 (rowsFn tint (H.getD ((ln:Int)).toNat tHave.zero)))] hh (iI (cntM M (H.getD ((ln:Int)).toNat tHave.zero))) hh)(hE:∀hh:List Blk,hh[2]? =some (mK M)->SemOK Tryz.prog (.mapEntry 131 (.tmp 37) (.tmp 38)) [(.tmp 37,.map 2),(.tmp 38,.arr 1 5 (rowsFn tint (H.getD ((ln:Int)).toNat tHave.zero)))] hh (.tuple [iI (cntM M (H.getD ((ln:Int)).toNat tHave.zero)),iI (idxM M (H.getD ((ln:Int)).toNat tHave.zero):Int)]) (hh.set 2 (mK (entM M (H.getD ((ln:Int)).toNat tHave.zero)))))(hS:∀hh:List Blk,hh[2]? =some (mK (entM M (H.getD ((ln:Int)).toNat tHave.zero)))->SemOK Tryz.prog (opAt Tryz.f27 11 6) [(.tmp 37,.map 2),(.tmp 42,iI (idxM M (H.getD ((ln:Int)).toNat tHave.zero):Int)),(.tmp 40,iI (cntM M (H.getD ((ln:Int)).toNat tHave.zero)+(1:Int)))] hh uU (hh.set 2 (mK (addM M (H.getD ((ln:Int)).toNat tHave.zero)))))(hr:inR .i64 (cntM M (H.getD ((ln:Int)).toNat tHave.zero)+(1:Int))=true):AWP Tryz.prog ⟨some lq,5⟩ (regionOf Tryz.f27 11) ⟨[uU,uU,uU,uU,uU,uU,uU,uU,.ref 1 0 0,.ref 3 0 0,.ref 4 0 0,.ref 5 0 0,.ref 6 0 0,uU,uU,uU,uU,uU,uU,uU,uU,uU,uU,uU,uU,uU,uU,uU,uU,.ref 5 0 1,.list 5 (n+1) (rowsOf tHave H),iI (ln:Int),.cref 5 fun q=>([iI ((H.getD ((ln:Int)).toNat tHave.zero) 0),iI ((H.getD ((ln:Int)).toNat tHave.zero) 1),iI ((H.getD ((ln:Int)).toNat tHave.zero) 2),iI ((H.getD ((ln:Int)).toNat tHave.zero) 3),iI ((H.getD ((ln:Int)).toNat tHave.zero) 4)]:List V).getD q uU,.agg [iI ((H.getD ((ln:Int)).toNat tHave.zero) 0),iI ((H.getD ((ln:Int)).toNat tHave.zero) 1),iI ((H.getD ((ln:Int)).toNat tHave.zero) 2),iI ((H.getD ((ln:Int)).toNat tHave.zero) 3),iI ((H.getD ((ln:Int)).toNat tHave.zero) 4)],.arr 1 5 (rowsFn tint (H.getD ((ln:Int)).toNat tHave.zero)),.arr 1 5 (rowsFn tint La),.bool (!((((H.getD ((ln:Int)).toNat tHave.zero) 0)==(La 0))&&((((H.getD ((ln:Int)).toNat tHave.zero) 1)==(La 1))&&((((H.getD ((ln:Int)).toNat tHave.zero) 2)==(La 2))&&((((H.getD ((ln:Int)).toNat tHave.zero) 3)==(La 3))&&((((H.getD ((ln:Int)).toNat tHave.zero) 4)==(La 4))&&true)))))),uU,uU,uU,uU,uU,uU,uU,uU,uU],[.gone,.cells [iI (ln:Int)],.obj (mO M),.cells [.map 2],.rows 128 1 5 (rowsFn tint La),.cells [.list 2 n (rowsOf tPair P),.list 5 (n+1) (rowsOf tHave H)],.rows 128 1 5 (rowsFn tint (H.getD ((ln:Int)).toNat tHave.zero))],[]⟩ (fun e T=>e=.normal/\T=⟨[uU,uU,uU,uU,uU,uU,uU,uU,.ref 1 0 0,.ref 3 0 0,.ref 4 0 0,.ref 5 0 0,.ref 6 0 0,uU,uU,uU,uU,uU,uU,uU,uU,uU,uU,uU,uU,uU,uU,uU,uU,.ref 5 0 1,.list 5 (n+1) (rowsOf tHave H),iI (ln:Int),.cref 5 fun q=>([iI ((H.getD ((ln:Int)).toNat tHave.zero) 0),iI ((H.getD ((ln:Int)).toNat tHave.zero) 1),iI ((H.getD ((ln:Int)).toNat tHave.zero) 2),iI ((H.getD ((ln:Int)).toNat tHave.zero) 3),iI ((H.getD ((ln:Int)).toNat tHave.zero) 4)]:List V).getD q uU,.agg [iI ((H.getD ((ln:Int)).toNat tHave.zero) 0),iI ((H.getD ((ln:Int)).toNat tHave.zero) 1),iI ((H.getD ((ln:Int)).toNat tHave.zero) 2),iI ((H.getD ((ln:Int)).toNat tHave.zero) 3),iI ((H.getD ((ln:Int)).toNat tHave.zero) 4)],.arr 1 5 (rowsFn tint (H.getD ((ln:Int)).toNat tHave.zero)),.arr 1 5 (rowsFn tint La),.bool (!((((H.getD ((ln:Int)).toNat tHave.zero) 0)==(La 0))&&((((H.getD ((ln:Int)).toNat tHave.zero) 1)==(La 1))&&((((H.getD ((ln:Int)).toNat tHave.zero) 2)==(La 2))&&((((H.getD ((ln:Int)).toNat tHave.zero) 3)==(La 3))&&((((H.getD ((ln:Int)).toNat tHave.zero) 4)==(La 4))&&true)))))),.map 2,.arr 1 5 (rowsFn tint (H.getD ((ln:Int)).toNat tHave.zero)),iI (cntM M (H.getD ((ln:Int)).toNat tHave.zero)),iI ((cntM M (H.getD ((ln:Int)).toNat tHave.zero))+(1:Int)),.tuple [iI (cntM M (H.getD ((ln:Int)).toNat tHave.zero)),iI (idxM M (H.getD ((ln:Int)).toNat tHave.zero):Int)],iI (idxM M (H.getD ((ln:Int)).toNat tHave.zero):Int),uU,uU,uU],[.gone,.cells [iI (ln:Int)],.obj (mO (addM M (H.getD ((ln:Int)).toNat tHave.zero))),.cells [.map 2],.rows 128 1 5 (rowsFn tint La),.cells [.list 2 n (rowsOf tPair P),.list 5 (n+1) (rowsOf tHave H)],.rows 128 1 5 (rowsFn tint (H.getD ((ln:Int)).toNat tHave.zero))],[]⟩):=by
 refine AWP.region_bits (ops:=o27_11) 6 0 t27_11 mx (st27_11 n P H ln M La lq) (fun z_i z_h c=> ?_) ?_
 ·rcases show z_i=0\/z_i=1\/z_i=2\/z_i=3\/z_i=4\/z_i=5 by omega with rfl|rfl|rfl|rfl|rfl|rfl
  ·exact AStep.rd true (.map 2) rfl
  ·exact AStep.rd true (.arr 1 5 (rowsFn tint (H.getD ((ln:Int)).toNat tHave.zero))) rfl
  ·rw[mkb_free t27_11 2 false c [4,5] rfl,mkb_free t27_11 2 true c [4,5] rfl];simp only[List.map_cons,List.map_nil];generalize c 4=c4
   generalize c 5=c5
   cases c4<;>cases c5;all_goals refine AStep.of_ops (AOps.sem (o:=o27_11.getD 2 default) (us:=[(.tmp 37,uU),(.tmp 38,uU)]) (v:=iI (cntM M (H.getD ((ln:Int)).toNat tHave.zero))) (h':=_) (by kernel_rfl) (by kernel_rfl) (by kernel_rfl) (by rw[show(o27_11.getD 2 default).op=.lookup 131 (.tmp 37) (.tmp 38) false by kernel_rfl];exact hL _ (by first|exact .inl rfl|exact .inr rfl)) (fun j hj=>by cases hj) (AOps.nil ⟨rfl,?_⟩))
   all_goals kernel_rfl
  ·refine AStep.rd (inR .i64 ((cntM M (H.getD ((ln:Int)).toNat tHave.zero))+(1:Int))) (iI ((cntM M (H.getD ((ln:Int)).toNat tHave.zero))+(1:Int))) ?_;first|assumption|rfl|(simp[*];done)|(simp;omega)|(simp only[Bool.and_eq_true,decide_eq_true_eq];omega)
  ·rw[mkb_free t27_11 4 false c [2,3] rfl,mkb_free t27_11 4 true c [2,3] rfl];simp only[List.map_cons,List.map_nil];generalize c 2=c2
   generalize c 3=c3
   cases c2<;>cases c3;all_goals refine AStep.of_ops (AOps.sem (o:=o27_11.getD 4 default) (us:=[(.tmp 37,uU),(.tmp 38,uU)]) (v:=.tuple [iI (cntM M (H.getD ((ln:Int)).toNat tHave.zero)),iI (idxM M (H.getD ((ln:Int)).toNat tHave.zero):Int)]) (h':=_) (by kernel_rfl) (by kernel_rfl) (by kernel_rfl) (by rw[show(o27_11.getD 4 default).op=.mapEntry 131 (.tmp 37) (.tmp 38) by kernel_rfl];exact hE _ rfl) (fun j hj=>by cases hj) (AOps.nil ⟨rfl,?_⟩))
   all_goals kernel_rfl
  ·exact AStep.rd true (iI (idxM M (H.getD ((ln:Int)).toNat tHave.zero):Int)) rfl
 ·refine AOps.tree (g:=(.sem (opAt Tryz.f27 11 6) [(.tmp 37,.map 2),(.tmp 42,iI (idxM M (H.getD ((ln:Int)).toNat tHave.zero):Int)),(.tmp 40,iI ((cntM M (H.getD ((ln:Int)).toNat tHave.zero))+(1:Int)))] [.gone,.cells [iI (ln:Int)],.obj (mO (entM M (H.getD ((ln:Int)).toNat tHave.zero))),.cells [.map 2],.rows 128 1 5 (rowsFn tint La),.cells [.list 2 n (rowsOf tPair P),.list 5 (n+1) (rowsOf tHave H)],.rows 128 1 5 (rowsFn tint (H.getD ((ln:Int)).toNat tHave.zero))] (uU) [.gone,.cells [iI (ln:Int)],.obj (mO (addM M (H.getD ((ln:Int)).toNat tHave.zero))),.cells [.map 2],.rows 128 1 5 (rowsFn tint La),.cells [.list 2 n (rowsOf tPair P),.list 5 (n+1) (rowsOf tHave H)],.rows 128 1 5 (rowsFn tint (H.getD ((ln:Int)).toNat tHave.zero))] (.done .normal ⟨[uU,uU,uU,uU,uU,uU,uU,uU,.ref 1 0 0,.ref 3 0 0,.ref 4 0 0,.ref 5 0 0,.ref 6 0 0,uU,uU,uU,uU,uU,uU,uU,uU,uU,uU,uU,uU,uU,uU,uU,uU,.ref 5 0 1,.list 5 (n+1) (rowsOf tHave H),iI (ln:Int),.cref 5 fun q=>([iI ((H.getD ((ln:Int)).toNat tHave.zero) 0),iI ((H.getD ((ln:Int)).toNat tHave.zero) 1),iI ((H.getD ((ln:Int)).toNat tHave.zero) 2),iI ((H.getD ((ln:Int)).toNat tHave.zero) 3),iI ((H.getD ((ln:Int)).toNat tHave.zero) 4)]:List V).getD q uU,.agg [iI ((H.getD ((ln:Int)).toNat tHave.zero) 0),iI ((H.getD ((ln:Int)).toNat tHave.zero) 1),iI ((H.getD ((ln:Int)).toNat tHave.zero) 2),iI ((H.getD ((ln:Int)).toNat tHave.zero) 3),iI ((H.getD ((ln:Int)).toNat tHave.zero) 4)],.arr 1 5 (rowsFn tint (H.getD ((ln:Int)).toNat tHave.zero)),.arr 1 5 (rowsFn tint La),.bool (!((((H.getD ((ln:Int)).toNat tHave.zero) 0)==(La 0))&&((((H.getD ((ln:Int)).toNat tHave.zero) 1)==(La 1))&&((((H.getD ((ln:Int)).toNat tHave.zero) 2)==(La 2))&&((((H.getD ((ln:Int)).toNat tHave.zero) 3)==(La 3))&&((((H.getD ((ln:Int)).toNat tHave.zero) 4)==(La 4))&&true)))))),.map 2,.arr 1 5 (rowsFn tint (H.getD ((ln:Int)).toNat tHave.zero)),iI (cntM M (H.getD ((ln:Int)).toNat tHave.zero)),iI ((cntM M (H.getD ((ln:Int)).toNat tHave.zero))+(1:Int)),.tuple [iI (cntM M (H.getD ((ln:Int)).toNat tHave.zero)),iI (idxM M (H.getD ((ln:Int)).toNat tHave.zero):Int)],iI (idxM M (H.getD ((ln:Int)).toNat tHave.zero):Int),uU,uU,uU],[.gone,.cells [iI (ln:Int)],.obj (mO (addM M (H.getD ((ln:Int)).toNat tHave.zero))),.cells [.map 2],.rows 128 1 5 (rowsFn tint La),.cells [.list 2 n (rowsOf tPair P),.list 5 (n+1) (rowsOf tHave H)],.rows 128 1 5 (rowsFn tint (H.getD ((ln:Int)).toNat tHave.zero))],[]⟩))) (by kernel_rfl) ?_
  simp only[DT.holds];repeat' (first|exact rfl|refine And.intro ?_ ?_)
  all_goals first|(simp;done)|exact hS _ rfl
theorem key128:KeyT Tryz.prog 128 where
 und:=⟨3,by kernel_rfl⟩
 eqv:=fun F G=>by kernel_rfl
 chk:=fun b F w=>run_checkK (e:=3) (by kernel_rfl) (by kernel_rfl) (by kernel_rfl) (by kernel_rfl) (fun F i hi=>by
  rcases show i=0\/i=1\/i=2\/i=3\/i=4 by omega with rfl|rfl|rfl|rfl|rfl<;>kernel_rfl) b F w
theorem idx_cases(M:KM)(F:Nat->Int):(∃hj:idxM M F<M.length,same5 F M[idxM M F].1=true/\∀i,(hi:i<M.length)->i<idxM M F->same5 F M[i].1=false)\/(idxM M F=M.length/\∀p∈M,same5 F p.1=false):=by
 unfold idxM;by_cases h:M.findIdx (fun p=>same5 F p.1)<M.length
 ·exact .inl ⟨h,List.findIdx_getElem (w:=h),fun i hi hlt=>by simpa using List.not_of_lt_findIdx hlt⟩
 ·right
  have e:M.findIdx (fun p=>same5 F p.1)=M.length:=Nat.le_antisymm List.findIdx_le_length (Nat.le_of_not_lt h);refine⟨e,fun p hp=> ?_⟩
  cases hs:same5 F p.1 with
  |false=>rfl
  |true=>exact absurd (List.findIdx_lt_length.2 ⟨p,hp,hs⟩) h
theorem ent_len(M:KM)(F:Nat->Int):idxM M F<(entM M F).length:=by
 rcases idx_cases M F with⟨hj,-⟩|⟨e,-⟩
 ·unfold entM;rw[if_pos hj];exact hj
 ·unfold entM;rw[if_neg (by omega),List.length_append,e];simp
theorem semL(M:KM)(F:Nat->Int)(hh:List Blk)(hm:hh[2]? =some (mK M)\/hh[2]? =some (mK (entM M F))):SemOK Tryz.prog (.lookup 131 (.tmp 37) (.tmp 38) false) [(.tmp 37,.map 2),(.tmp 38,.arr 1 5 (rowsFn tint F))] hh (iI (cntM M F)) hh:=by
 have hc:∀r,r<5->rowsFn tint F r 0=iI (F r):=fun r _=>rfl;rcases idx_cases M F with⟨hj,h1,h2⟩|⟨e,h1⟩
 ·have he:entM M F=M:=if_pos hj;rw[he,or_self]at hm;have hv:cntM M F=M[idxM M F].2:=by unfold cntM;rw[gE,List.getElem?_eq_getElem hj];rfl
  rw[hv];exact sem_lookupK1 (kt:=128) (et:=3) (by kernel_rfl) key128 hm hc hj h1 h2
 ·have hv:cntM M F=0:=by unfold cntM;rw[gE,List.getElem?_eq_none (by omega)];rfl
  rw[hv];rcases hm with hm|hm
  ·exact sem_lookupK0 (kt:=128) (et:=3) (by kernel_rfl) key128 (by kernel_rfl) hm hc h1
  ·have he:entM M F=M++ [(F,0)]:=if_neg (by omega);rw[he]at hm;have hjl:M.length<(M++ [(F,(0:Int))]).length:=by simp
   have:=sem_lookupK1 (P:=Tryz.prog) (t:=131) (x:=.tmp 37) (y:=.tmp 38) (kt:=128) (et:=3) (by kernel_rfl) key128 hm hc (j:=M.length) hjl (by simp[same5]) (fun i hi hlt=>by rw[List.getElem_append_left hlt];exact h1 _ (List.getElem_mem _));simpa using this
theorem semE(M:KM)(F:Nat->Int)(hh:List Blk)(hm:hh[2]? =some (mK M)):SemOK Tryz.prog (.mapEntry 131 (.tmp 37) (.tmp 38)) [(.tmp 37,.map 2),(.tmp 38,.arr 1 5 (rowsFn tint F))] hh (.tuple [iI (cntM M F),iI (idxM M F:Int)]) (hh.set 2 (mK (entM M F))):=by
 have hc:∀r,r<5->rowsFn tint F r 0=iI (F r):=fun r _=>rfl;rcases idx_cases M F with⟨hj,h1,h2⟩|⟨e,h1⟩
 ·have he:entM M F=M:=if_pos hj;have hv:cntM M F=M[idxM M F].2:=by unfold cntM;rw[gE,List.getElem?_eq_getElem hj];rfl
  rw[hv,he];exact sem_entryK1 (kt:=128) (et:=3) (by kernel_rfl) key128 hm hc hj h1 h2
 ·have hv:cntM M F=0:=by unfold cntM;rw[gE,List.getElem?_eq_none (by omega)];rfl
  have he:entM M F=M++ [(F,0)]:=if_neg (by omega);rw[hv,he,e];exact sem_entryK0 (kt:=128) (et:=3) (by kernel_rfl) key128 (by kernel_rfl) hm hc h1
theorem semS(M:KM)(F:Nat->Int)(hh:List Blk)(hm:hh[2]? =some (mK (entM M F))):SemOK Tryz.prog (opAt Tryz.f27 11 6) [(.tmp 37,.map 2),(.tmp 42,iI (idxM M F:Int)),(.tmp 40,iI (cntM M F+(1:Int)))] hh uU (hh.set 2 (mK (addM M F))):=by
 have e:opAt Tryz.f27 11 6=.entryStore 131 (.tmp 37) (.tmp 42) (.tmp 40):=by kernel_rfl
 rw[e];have hj:=ent_len M F;have:=sem_storeK (P:=Tryz.prog) (t:=131) (x:=.tmp 37) (y:=.tmp 42) (z:=.tmp 40) hm hj (cntM M F+1)
 have ea:addM M F=(entM M F).set (idxM M F) ((entM M F)[idxM M F].1,cntM M F+1):=by
  unfold addM;rw[gE,List.getElem?_eq_getElem hj];rfl
 rw[ea];exact this
def stepM(s:KM × (Nat->Int))(F:Nat->Int):KM × (Nat->Int):=if same5 F s.2=true then s else(addM s.1 F,F)
def manyM(b:Book)(day:Int)(l:List Truth):KM × (Nat->Int):=l.foldl (fun s t=>stepM s (fnH (atR b t day))) ([],fun _=>0)
def metL(b:Book)(day:Int)(l:List Truth):List (List Int):=(l.map fun t=>atR b t day).foldl metN []
theorem same_fnH{l m:List Int}(hl:l.length=m.length)(h5:l.length<=5):same5 (fnH l) (fnH m)=true↔l=m:=by
 constructor
 ·intro h
  have hj:∀j,j<5->fnH l j=fnH m j:=fun j hj=>by
   obtain⟨q0,q1,q2,q3,q4⟩:=same5_iff.1 h;rcases show j=0\/j=1\/j=2\/j=3\/j=4 by omega with rfl|rfl|rfl|rfl|rfl<;>assumption
  refine List.ext_getElem hl fun j h1 h2=> ?_;have:=hj j (by omega);rw[fnH_get h1 (by omega),fnH_get h2 (by omega),gE,gE,List.getElem?_eq_getElem h1,List.getElem?_eq_getElem h2]at this;exact this
 ·rintro rfl;simp[same5]
theorem met_mem{b:Book}{day:Int}:∀(l:List (List Int)) (m:List (List Int)),∀o∈l.foldl metN m,o∈l\/o∈m
 |[],m,o,h=>.inr h
 |x::l,m,o,h=>by
  rw[List.foldl_cons]at h;rcases met_mem (b:=b) (day:=day) l _ o h with q|q
  ·exact .inl (List.mem_cons_of_mem _ q)
  ·unfold metN at q;split at q
   ·exact .inr q
   ·rcases List.mem_append.1 q with q|q
    ·exact .inr q
    ·rw[List.mem_singleton.1 q];exact .inl List.mem_cons_self
theorem zero_ne{n:Nat}(h5:n<=5){l:List Int}(hp:l.Perm ((List.range n).map fun(i:Nat)=>(i:Int))):same5 (fnH l) (fun _=>0)=false:=by
 obtain⟨hl,hnd,hin,hex⟩:=perm_get hp
 cases hs:same5 (fnH l) (fun _=>0)with
 |false=>rfl
 |true=>
  exfalso
  have hj:∀j,j<5->fnH l j=0:=fun j hj=>by
   obtain⟨q0,q1,q2,q3,q4⟩:=same5_iff.1 hs;rcases show j=0\/j=1\/j=2\/j=3\/j=4 by omega with rfl|rfl|rfl|rfl|rfl<;>assumption
  by_cases h1:n<=1
  ·have:=hj 1 (by omega);unfold fnH at this;rw[if_pos (by omega),if_neg (by omega)]at this;cases this
  ·obtain⟨i,hi,hv⟩:=hex 1 (by omega) (by omega);have:=hj i (by omega);rw[fnH_get (by omega) (by omega),hv]at this;cases this
structure InvM(b:Book)(day:Int)(l:List Truth)(s:KM × (Nat->Int)):Prop where
 keys:s.1.map (·.1)=(metL b day l).map fnH
 cnt:∀p∈s.1,0<=p.2/\p.2<=l.length
 last:s.2=(fun _=>0)\/∃o∈metL b day l,s.2=fnH o
theorem cnt_in{b:Book}{day:Int}{l:List Truth}{s:KM × (Nat->Int)}(h:InvM b day l s)(F:Nat->Int):0<=cntM s.1 F/\cntM s.1 F<=l.length:=by
 unfold cntM;by_cases hj:idxM s.1 F<s.1.length
 ·rw[gE,List.getElem?_eq_getElem hj];exact h.cnt _ (List.getElem_mem hj)
 ·rw[gE,List.getElem?_eq_none (by omega)];exact⟨Int.le_refl _,by show(0:Int)<=_;omega⟩
theorem inv_step{b:Book}(h:OkBook b){day:Int}{l:List Truth}{s:KM × (Nat->Int)}(hi:InvM b day l s){t:Truth}(ht:t∈truthsR b [])(hl:∀u∈l,u∈truthsR b []):InvM b day (l++ [t]) (stepM s (fnH (atR b t day))):=by
 have hnb:=h.nb;have hln:=lineN_in b day;have hperm:∀u∈truthsR b [],(atR b u day).Perm (firstH b):=fun u hu=>have_in h hu (by omega)
 have hlen:∀o∈metL b day l,o.length=b.bodies.length:=fun o ho=>by
  rcases met_mem (b:=b) (day:=day) _ _ o ho with q|q
  ·obtain⟨u,hu,rfl⟩:=List.mem_map.1 q;exact(perm_get (hperm u (hl u hu))).1
  ·cases q
 have hown:=(perm_get (hperm t ht)).1;have hz:=zero_ne hnb (hperm t ht);have hmet:metL b day (l++ [t])=metN (metL b day l) (atR b t day):=by unfold metL;rw[List.map_append,List.foldl_append];rfl
 have hany:(metL b day l).any (fun m=>sameI m (atR b t day))=true↔atR b t day∈metL b day l:=by
  rw[List.any_eq_true];constructor
  ·rintro⟨m,h1,h2⟩
   rw[<-of_decide_eq_true h2];exact h1
  ·intro h1;exact⟨_,h1,decide_eq_true rfl⟩
 have hlen2:(l++ [t]).length=l.length+1:=by simp
 generalize atR b t day=own at*
 unfold stepM;by_cases hsm:same5 (fnH own) s.2=true
 ·rw[if_pos hsm]
  have hin:own∈metL b day l:=by
   rcases hi.last with q|⟨o,ho,q⟩
   ·rw[q,hz]at hsm;cases hsm
   ·rw[q]at hsm;rw[(same_fnH (by rw[hown,hlen o ho]) (by omega)).1 hsm];exact ho
  have e:metN (metL b day l) own=metL b day l:=by unfold metN;rw[if_pos (hany.2 hin)]
  rw[e]at hmet;exact⟨by rw[hmet];exact hi.keys,fun p hp=>by have:=hi.cnt p hp;rw[hlen2];omega,by rw[hmet];exact hi.last⟩
 ·rw[if_neg hsm];have hci:=cnt_in hi (fnH own);have hel:=ent_len s.1 (fnH own)
  have hk2:∀M':KM,idxM s.1 (fnH own)<M'.length->(M'.set (idxM s.1 (fnH own)) ((M'.getD (idxM s.1 (fnH own)) (fnH own,0)).1,cntM s.1 (fnH own)+1)).map (·.1)=M'.map (·.1):=fun M' hM'=>by
   rw[List.map_set];refine List.ext_getElem (by simp) fun j h1 h2=> ?_;by_cases e:idxM s.1 (fnH own)=j
   ·subst e;rw[List.getElem_set_self,List.getElem_map,gE,List.getElem?_eq_getElem hM'];rfl
   ·rw[List.getElem_set_ne e]
  have hcnt:∀p∈addM s.1 (fnH own),0<=p.2/\p.2<=((l++ [t]).length:Int):=fun p hp=>by
   rw[hlen2];unfold addM at hp;rcases List.mem_or_eq_of_mem_set hp with q|rfl
   ·unfold entM at q;split at q
    ·have:=hi.cnt p q;omega
    ·rcases List.mem_append.1 q with q|q
     ·have:=hi.cnt p q;omega
     ·rw[List.mem_singleton.1 q];exact⟨Int.le_refl _,by show(0:Int)<=_;omega⟩
   ·simp only;omega
  have hmem:idxM s.1 (fnH own)<s.1.length↔own∈metL b day l:=by
   unfold idxM;rw[List.findIdx_lt_length];constructor
   ·rintro⟨p,hp,hs⟩
    have:p.1∈s.1.map (·.1):=List.mem_map.2 ⟨p,hp,rfl⟩;rw[hi.keys]at this;obtain⟨o,ho,hq⟩:=List.mem_map.1 this;rw[<-hq]at hs;rw[(same_fnH (by rw[hown,hlen o ho]) (by omega)).1 hs];exact ho
   ·intro ho;have:fnH own∈s.1.map (·.1):=by rw[hi.keys];exact List.mem_map.2 ⟨own,ho,rfl⟩
    obtain⟨p,hp,hq⟩:=List.mem_map.1 this;exact⟨p,hp,by rw[hq];simp[same5]⟩
  have hkeys:(addM s.1 (fnH own)).map (·.1)=(entM s.1 (fnH own)).map (·.1):=hk2 _ hel;by_cases hin:own∈metL b day l
  ·have e:metN (metL b day l) own=metL b day l:=by unfold metN;rw[if_pos (hany.2 hin)]
   have he:entM s.1 (fnH own)=s.1:=if_pos (hmem.2 hin);rw[e]at hmet;rw[he]at hkeys;exact⟨by rw[hmet];exact hkeys.trans hi.keys,hcnt,.inr ⟨own,by rw[hmet];exact hin,rfl⟩⟩
  ·have e:metN (metL b day l) own=metL b day l++ [own]:=by unfold metN;rw[if_neg (fun q=>hin (hany.1 q))]
   have he:entM s.1 (fnH own)=s.1++ [(fnH own,0)]:=if_neg (fun q=>hin (hmem.1 q));rw[e]at hmet;rw[he]at hkeys;exact⟨by rw[hmet,hkeys,List.map_append,List.map_append,hi.keys];rfl,hcnt,.inr ⟨own,by rw[hmet];simp,rfl⟩⟩
theorem inv_all{b:Book}(h:OkBook b)(day:Int):∀(r l:List Truth) (s:KM × (Nat->Int)),InvM b day l s->(∀u∈l++r,u∈truthsR b [])->InvM b day (l++r) (r.foldl (fun s t=>stepM s (fnH (atR b t day))) s)
 |[],l,s,hi,_=>by rw[List.append_nil];exact hi
 |t::r,l,s,hi,hm=>by
  have e:l++t::r=(l++ [t])++r:=by simp
  rw[e,List.foldl_cons];refine inv_all h day r (l++ [t]) _ (inv_step h hi (hm t (by simp)) fun u hu=>hm u (List.mem_append_left _ hu)) fun u hu=>hm u (by rw[e];exact hu)
theorem inv_take{b:Book}(h:OkBook b)(day:Int)(k:Nat):InvM b day ((truthsR b []).take k) (manyM b day ((truthsR b []).take k)):=by
 have:=inv_all h day ((truthsR b []).take k) [] ([],fun _=>0) ⟨rfl,fun p hp=>absurd hp List.not_mem_nil,.inl rfl⟩ (fun u hu=>List.mem_of_mem_take (by simpa using hu));rwa[List.nil_append]at this
inductive P27y
 |e
inductive R27y
 |r0 (r0:Int) (r1:Int)
 |r1 (r0:Int) (r1:Int)
def T27y(b:Book)(day:Int):P27y->Tr P27y R27y
 |.e=>let c2:List V:=[uU,uU,uU,uU,uU,uU,uU,uU,.ref 1 0 0,.ref 3 0 0,.ref 4 0 0,uU,uU,uU,uU,uU,uU,uU,uU,uU,uU,uU,uU,uU,uU,uU,uU,fG 110 [rR (lk (lookOf b)),rR (iI 0)],uU,uU,uU,uU,uU,uU,uU,uU,uU,uU,uU,uU,uU,uU,uU,uU,uU,uU];let c3:=((manyM b day (truthsR b [])).1.length:Int);let c4:List V:=[iI (lineN b day)];let c1:List Blk:=[.cells (cC b),.cells c4,.obj (mO ((manyM b day (truthsR b [])).1)),.cells [.map 2],.rows 128 1 5 (rowsFn tint ((manyM b day (truthsR b [])).2)),.obj (.deferred (some []))];(.call 74 [.agg (cC b),iI day,.nils] (.tuple [lk (lookOf b),iI 0]) true true (.br ((0:Int) !=(0:Int)) (.out (.r0 0 0)) (.call 77 [lk (lookOf b),iI day] (iI (lineN b day)) true true (.sem (opAt Tryz.f27 5 0) [] [.cells (cC b),.cells c4] (.map 2) [.cells (cC b),.cells c4,.obj (mO ([]))] true (.wait 2 (.telb 4 1 5 (fun _ j=>([iI 0]:List V).getD j uU) (rowsFn tint (fun _=>tint.zero)) (.call 75 [lk (lookOf b),iI 0] (fG 110 [rR (lk (lookOf b)),rR (iI 0)]) true true (.wait 1 (.drop ⟨[uU,uU,uU,uU,uU,uU,uU,uU,.nil,.nil,.nil,uU,uU,uU,uU,uU,uU,uU,uU,uU,uU,uU,uU,uU,uU,uU,uU,.nil,uU,uU,uU,uU,uU,uU,uU,uU,uU,uU,uU,uU,uU,uU,uU,uU,uU,uU],[.void,.void,.void,.void,.void],[]⟩ (.over (rangeOf Tryz.f27) ⟨c2,[.cells (cC b),.cells c4,.obj (mO ([])),.cells [.map 2],.rows 128 1 5 (rowsFn tint (fun _=>tint.zero))],[]⟩ .normal ⟨c2,c1,[5]⟩ true (.sem (opAt Tryz.f27 13 1) [(.tmp 44,.map 2)] c1 (iI c3) c1 true (.out (.r1 c3 0)))))))))))))
noncomputable def g27y(b:Book)(day:Int):P27y->List Item × St
 |.e=>bd Tryz.f27 [.agg (cC b),iI day] 44
def n27y(b:Book)(day:Int):R27y->Exit × St
 |.r0 r0 r1=>(.ret,⟨mk 46 [(4,iI r0),(5,iI r1)],[],[]⟩)
 |.r1 r0 r1=>(.ret,⟨mk 46 [(4,iI r0),(5,iI r1)],[.gone,.gone,.gone,.gone,.gone,.obj (.deferred (some []))],[5]⟩)
def v27y(b:Book)(day:Int):R27y->V
 |.r0 r0 r1=>.tuple [iI r0,iI r1]
 |.r1 r0 r1=>.tuple [iI r0,iI r1]
theorem s27y(b:Book)(day:Int):Sm 0 (g27y b day) (T27y b day) (n27y b day)
 |.e=>⟨400,by kernel_rfl⟩
theorem q27y(b:Book)(day:Int):∀r,bodyQ Tryz.prog Tryz.f27 (·=v27y b day r) (n27y b day r).1 (n27y b day r).2
 |.r0 r0 r1=>bq (.tuple [iI r0,iI r1]) (by kernel_rfl)
 |.r1 r0 r1=>⟨.inr rfl,by simp[n27y],(.tuple [iI r0,iI r1]),(.tuple [iI r0,iI r1]),by kernel_rfl,(.imm rfl),rfl⟩
theorem w27y(b:Book)(day:Int){post:V->Prop}(h:WP Tryz.prog ⟨none,0⟩ (T27y b day) (Ends' fun r=>post (v27y b day r)) .e):PC 27 [.agg (cC b),iI day] post:=
 PCalls.wq Tryz.func27 (s27y b day) (q27y b day) h
inductive P27n
 |e
inductive R27n
 |r0 (r0:Int) (r1:Int)
def T27n(b:Book)(day:Int):P27n->Tr P27n R27n
 |.e=>let c1:=toldR b [] day;(.call 74 [.agg (cC b),iI day,.nils] (.tuple [.nil,iI (c1.2)]) true true (.br (c1.2 !=(0:Int)) (.out (.r0 0 (c1.2))) (.wait 2 .never)))
noncomputable def g27n(b:Book)(day:Int):P27n->List Item × St
 |.e=>bd Tryz.f27 [.agg (cC b),iI day] 44
def n27n(b:Book)(day:Int):R27n->Exit × St
 |.r0 r0 r1=>(.ret,⟨mk 46 [(4,iI r0),(5,iI r1)],[],[]⟩)
def v27n(b:Book)(day:Int):R27n->V
 |.r0 r0 r1=>.tuple [iI r0,iI r1]
theorem s27n(b:Book)(day:Int):Sm 0 (g27n b day) (T27n b day) (n27n b day)
 |.e=>⟨400,by kernel_rfl⟩
theorem q27n(b:Book)(day:Int):∀r,bodyQ Tryz.prog Tryz.f27 (·=v27n b day r) (n27n b day r).1 (n27n b day r).2
 |.r0 r0 r1=>bq (.tuple [iI r0,iI r1]) (by kernel_rfl)
theorem w27n(b:Book)(day:Int){post:V->Prop}(h:WP Tryz.prog ⟨none,0⟩ (T27n b day) (Ends' fun r=>post (v27n b day r)) .e):PC 27 [.agg (cC b),iI day] post:=
 PCalls.wq Tryz.func27 (s27n b day) (q27n b day) h
abbrev H27(ln:Nat)(s:KM × (Nat->Int)):List Blk:=[.gone,.cells [iI (ln:Int)],.obj (mO s.1),.cells [.map 2],.rows 128 1 5 (rowsFn tint s.2)]
theorem body27(l:Nat)(n:Nat)(P:List Pair)(H:List (Nat->Int))(ln:Nat)(M:KM)(La:Nat->Int)(hln:ln<=n)(F:Nat->Int)(hF:H.getD ln tHave.zero=F)(hc:0<=cntM M F/\cntM M F<=100000000):
  AWP Tryz.prog ⟨some l,5⟩ (bdyOf (rangeOf Tryz.f27)) (g27b n P H ln M La .e).2 fun e S2=>e=.normal/\S2.h=H27 ln (stepM (M,La) F):=by
 subst hF;have hln':(ln:Int)<((n+1:Nat):Int):=by omega
 have hln2:(ln:Int)<(n:Int)+1:=by omega
 have hr:inR .i64 (cntM M (H.getD ln tHave.zero)+1)=true:=inR64 (by omega) (by omega);have kov:=ov27_11 n P H ln M La l (by rw[Int.toNat_natCast];exact semL M _) (by rw[Int.toNat_natCast];exact semE M _) (by rw[Int.toNat_natCast];exact semS M _) (by rw[Int.toNat_natCast];exact hr);simp only[Int.toNat_natCast]at kov
 obtain⟨F,hF⟩:∃F,H.getD ln tHave.zero=F:=⟨_,rfl⟩
 have hsE:(F 0==La 0&&(F 1==La 1&&(F 2==La 2&&(F 3==La 3&&(F 4==La 4&&true)))))=same5 F La:=rfl;refine AWP.wp mx (T27b n P H ln M La) (g27b n P H ln M La) (n27b n P H ln M La) .e rfl (s27b n P H ln M La) (post:=fun r=>(n27b n P H ln M La r).1=.normal/\(n27b n P H ln M La r).2.h=H27 ln (stepM (M,La) (H.getD ln tHave.zero))) ?_ (fun r hr=>hr);unfold stepM;rw[hF];rw[hF]at kov
 cases hsm:same5 F La with
 |true=>
  rw[if_pos rfl];rw[hsm]at hsE;refine WP.step ?_;simp only[T27b,Go,Ends',Tr.sure,SS,hF,hsE,Int.toNat_natCast];repeat' with_reducible first|intro _|apply aI
  all_goals first|exact(by with_reducible exact tel_flatH _ (by assumption) (by assumption))|(simp[Go,Ends',-List.getD_eq_getElem?_getD, *];done)|skip
  all_goals(subst hF;first|exact⟨rfl,rfl⟩|exact rfl)
 |false=>
  rw[if_neg Bool.false_ne_true];rw[hsm]at hsE;simp only[hsE,Bool.not_false]at kov;refine WP.step ?_;simp only[T27b,Go,Ends',Tr.sure,SS,hF,hsE,Int.toNat_natCast];repeat' with_reducible first|intro _|apply aI
  all_goals first|exact(by with_reducible exact tel_flatH _ (by assumption) (by assumption))|exact kov|(simp[Go,Ends',-List.getD_eq_getElem?_getD, *];done)|skip
  all_goals(subst hF;first|exact⟨rfl,rfl⟩|exact rfl)
abbrev t27(b:Book):List V:=[uU,uU,uU,uU,uU,uU,uU,uU,.ref 1 0 0,.ref 3 0 0,.ref 4 0 0]++List.replicate 16 uU++ [trF b 0]++List.replicate 18 uU
theorem manyM_step{b:Book}{day:Int}{l:List Truth}{k:Nat}{t:Truth}(h:l[k]? =some t):manyM b day (l.take (k+1))=stepM (manyM b day (l.take k)) (fnH (atR b t day)):=by
 unfold manyM;rw[take_get h,List.foldl_append];rfl
theorem range27(b:Book)(h:OkBook b)(day:Int)(ln:Nat)(hln:lineN b day=(ln:Int)):
  AWP Tryz.prog ⟨none,0⟩ (rangeOf Tryz.f27) ⟨t27 b,[.cells (tBook.cells b),.cells [iI (ln:Int)],.obj (mO []),.cells [.map 2],.rows 128 1 5 (rowsFn tint fun _=>0)],[]⟩ (fun e T=>e=.normal/\T=⟨t27 b,[.cells (tBook.cells b),.cells [iI (ln:Int)],.obj (mO (manyM b day (truthsR b [])).1),.cells [.map 2],.rows 128 1 5 (rowsFn tint (manyM b day (truthsR b [])).2),.obj (.deferred (some []))],[5]⟩):=by
 have e:rangeOf Tryz.f27=.rangeFunc (.tmp 27) #[28] (asgOf (rangeOf Tryz.f27)) (bdyOf (rangeOf Tryz.f27)):=by kernel_rfl
 have hln2:=lineN_in b day;rw[hln]at hln2;have hlen:(ysB b 0).length=(truthsR b []).length:=by unfold ysB;rw[List.length_map,butL_zero]
 have hfull:(truthsR b []).take (ysB b 0).length=truthsR b []:=by rw[hlen,List.take_length]
 have hsmall:=truths_len8 h [];rw[e]
 refine(AWP.rangeVT (fs:=[true]) (T:=t27 b) (H:=fun k=>H27 ln (manyM b day ((truthsR b []).take k))) (f:=110) (ys:=ysB b 0) (caps:=[rR (lk (lookOf b)),rR (iI 0)])
  rfl rfl (fun i hi hv=> ?_) rfl (fun j=>.inl rfl) rfl rfl (PCalls.enters Tryz.func110 (c:=Tryz.f110.body.getD .skip) (by kernel_rfl) (by kernel_rfl)) (c110 b h 0) rfl (fun _=>rfl) (fun _=>rfl) (fun l k us hu=> ?_) (fun q i k hk=>freeAll (fun b hb=> ?_) i k hk)).mono fun e T q=>⟨q.1,by rw[q.2,hfull];rfl⟩
 ·match i,hi,hv with
  |0,_,hv=>cases hv
  |i+1,hi,_=>simp at hi
 ·obtain⟨t,ht,rfl⟩:=ysB_get hu;rw[butL_zero]at ht;have hinv:=inv_take h day k;have hnx:=manyM_step (b:=b) (day:=day) ht;have hkl:=(List.getElem?_eq_some_iff.1 ht).1
  have hF:(t.haves.map fnH).getD ln tHave.zero=fnH (atR b t day):=by
   rw[have_fn h (List.mem_of_getElem? ht) (k:=ln) (by omega)];unfold atR;rw[hln,Int.toNat_natCast]
  have hcn:=cnt_in hinv (fnH (atR b t day));have htl:((truthsR b []).take k).length<=100000000:=Nat.le_trans (List.length_take_le _ _) (by omega);rw[hnx];generalize manyM b day ((truthsR b []).take k)=s at*
  obtain⟨M,La⟩:=s;refine⟨rfl,?_⟩;refine AWP.forget (t:=(setPs [28] [.agg [.list 2 b.lines.length (rowsOf tPair t.pairs),.list 5 (b.lines.length+1) (rowsOf tHave (t.haves.map fnH))]] (t27 b)).set 27 uU) (by simp) (forget_set _ 27) ?_
  refine AWP.wp mx (T27a b.lines.length t.pairs (t.haves.map fnH) ln M La) (g27a b.lines.length t.pairs (t.haves.map fnH) ln M La) (n27a b.lines.length t.pairs (t.haves.map fnH) ln M La) .e rfl (s27a b.lines.length t.pairs (t.haves.map fnH) ln M La)
   (post:=fun r=>(n27a b.lines.length t.pairs (t.haves.map fnH) ln M La r).1=.normal/\(n27a b.lines.length t.pairs (t.haves.map fnH) ln M La r).2=(g27b b.lines.length t.pairs (t.haves.map fnH) ln M La .e).2) ?_ (fun r hr=> ?_)
  ·refine WP.step ?_;simp only[T27a,Go,Ends',Tr.sure,SS];repeat' with_reducible first|intro _|apply aI
   all_goals exact rfl
  ·rw[hr.2];exact⟨hr.1,rfl,body27 l b.lines.length t.pairs (t.haves.map fnH) ln M La (by omega) _ hF ⟨hcn.1,by have:=hcn.2;simp only at this;omega⟩⟩
 ·simp only[List.mem_cons,List.not_mem_nil,or_false]at hb;rcases hb with rfl|rfl|rfl|rfl|rfl
  ·trivial
  ·rfl
  ·trivial
  ·rfl
  ·intro r j hr hj;obtain rfl:j=0:=by omega
   rfl
theorem c27(b:Book)(day:Int):PC 27 [.agg (tBook.cells b),iI day] (·=.tuple [iI (manyR b day).1,iI (manyR b day).2]):=by
 have k74:=PCalls.arg (pre:=[.agg (tBook.cells b),iI day]) (c74 b day []) VLe.nils;by_cases h0:(toldR b [] day).2=0
 ·obtain⟨hok,hns,hday,hne,htl⟩:=told_ok h0;have hinv:=inv_take hok day (truthsR b []).length;rw[List.take_length]at hinv
  have hlen:(manyM b day (truthsR b [])).1.length=(metL b day (truthsR b [])).length:=by
   have:=congrArg List.length hinv.keys;simpa using this
  have hP:manyR b day=(((manyM b day (truthsR b [])).1.length:Int),0):=by
   unfold manyR;rw[if_neg (fun q=>q h0),hlen];rfl
  rw[if_pos h0,h0]at k74
  obtain⟨ln,hln⟩:∃ln:Nat,lineN b day=(ln:Int):=⟨_,(Int.toNat_of_nonneg (lineN_in b day).1).symm⟩
  have k77:=c77 b hok day;have k75:=c75 (lookOf b) 0;have hr:=range27 b hok day ln hln;rw[<-hln]at hr;have s1:=fun(hh:List Blk)=>sem_makeK (P:=Tryz.prog) (h:=hh) 131;have e1:opAt Tryz.f27 5 0=.makeMap 131 none:=by kernel_rfl
  have e2:opAt Tryz.f27 13 1=.call {callee:=.builtin .len,args:= #[.tmp 44],argTypes:= #[131]}:=by kernel_rfl
  have s2:=fun(hh:List Blk) (hm:hh[2]? =some (mK (manyM b day (truthsR b [])).1))=>sem_lenK (P:=Tryz.prog) (x:=.tmp 44) (t:=131) (kt:=128) (et:=3) (h:=hh) (by kernel_rfl) hm;have s3:∀b1 b2:Blk,SemOK Tryz.prog (opAt Tryz.f27 5 0) [] [b1,b2] (.map 2) [b1,b2,.obj (mO [])]:=fun b1 b2=>by rw[e1];exact s1 [b1,b2]
  have s4:∀hh:List Blk,hh[2]? =some (mK (manyM b day (truthsR b [])).1)->SemOK Tryz.prog (opAt Tryz.f27 13 1) [(.tmp 44,.map 2)] hh (iI (manyM b day (truthsR b [])).1.length) hh:=fun hh hm=>by rw[e2];exact s2 hh hm
  rw[hP];refine w27y b day (WP.step ?_);simp only[T27y,Go,Ends',v27y,Tr.sure,SS];repeat' with_reducible first|intro _|apply aI
  all_goals first|exact k74|exact k75|exact k77|exact hr|exact(s3 _ _)|exact(s4 _ rfl)|exact(VLe.refl _)
 ·have hP:manyR b day=(0,(toldR b [] day).2):=by unfold manyR;rw[if_pos h0]
  rw[if_neg h0]at k74;rw[hP];refine w27n b day (WP.step ?_);simp only[T27n,Go,Ends',v27n,Tr.sure,SS,h0];repeat' with_reducible first|intro _|apply aI
  all_goals exact k74
end
noncomputable section
inductive P81
 |e
 |l0 (x0_6:ByteArray) (x0_19:Int)
inductive R81
 |r0 (r0:ByteArray)
def T81(x:Look)(body:Int)(day:Int):P81->Tr P81 R81
 |.e=>(.need (decide (0<=body)&&decide (body<(x.b.bodies.length:Int))) (.go (.l0 (ByteArray.mk #[]) 0)))
 |.l0 x0_6 x0_19=>let c1:=x.b.bodies.getD (body).toNat tBody.zero;let c2:=x0_19+(1:Int);let c3:=(c1.shown).getD (x0_19).toNat tShown.zero;let c4:=x0_19<((c1.shown.length):Int);(.br (decide c4) (.need (decide (0<=x0_19)&&decide c4) (.br (decide (c3.day<=day)) (.need (inR .i64 c2) (.go (.l0 (c3.as_) c2))) (.need (inR .i64 c2) (.go (.l0 x0_6 c2))))) (.out (.r0 x0_6)))
noncomputable def g81(x:Look)(body:Int)(day:Int):P81->List Item × St
 |.e=>bd Tryz.f81 [lk x,iI body,iI day] 28
 |.l0 x0_6 x0_19=>(cutOf Tryz.f81 0,⟨mk 31 [(2,iI day),(6,.str x0_6),(17,tShown.lst ((x.b.bodies.getD (body).toNat tBody.zero).shown)),(18,iI (((x.b.bodies.getD (body).toNat tBody.zero).shown.length):Int)),(19,iI x0_19)],[],[]⟩)
def n81:R81->Exit × St
 |.r0 r0=>(.ret,⟨mk 31 [(6,.str r0)],[],[]⟩)
def v81:R81->V
 |.r0 r0=>.str r0
theorem s81(x:Look)(body:Int)(day:Int):Sm 0 (g81 x body day) (T81 x body day) (n81)
 |.e=>⟨400,by kernel_rfl⟩
 |.l0 _ _=>⟨400,by kernel_rfl⟩
theorem q81:∀r,bodyQ Tryz.prog Tryz.f81 (·=v81 r) (n81 r).1 (n81 r).2
 |.r0 r0=>bq (.str r0) (by kernel_rfl)
theorem w81(x:Look)(body:Int)(day:Int){post:V->Prop}(h:WQ (T81 x body day) v81 post .e):PC 81 [lk x,iI body,iI day] post:=
 PCalls.wq Tryz.func81 (s81 x body day) q81 h
theorem c81(b:Book)(h:OkBook b)(body day:Int)(hb:0<=body/\body<b.bodies.length):PC 81 [lk (lookOf b),iI body,iI day] (·=.str (namedR (b.bodies.getD body.toNat zBody) day)):=by
 have hsh:(b.bodies.getD body.toNat zBody).shown.length<=3:=by
  have:=h.shown (i:=body.toNat) (by omega);unfold shownErr at this;split at this
  ·cases this
  ·omega
 have hzb:tBody.zero=zBody:=rfl;generalize hx:b.bodies.getD body.toNat zBody=x at*
 have hmain:WP Tryz.prog ⟨none,0⟩ (T81 (lookOf b) body day) (Ends' fun r=>v81 r=.str (namedR x day)) (.l0 (ByteArray.mk #[]) 0):=by
  refine WP.run (fun i=>.l0 (namedTo x day i) (i:Int)) rfl x.shown.length (fun i hi=> ?_) ?_
  ·have hr:inR .i64 ((i:Int)+1)=true:=inR64 (by omega) (by omega);have hi':(i:Int)<x.shown.length:=by omega
   have e:namedTo x day (i+1)=if(x.shown.getD i zShown).day<=day then(x.shown.getD i zShown).as_ else namedTo x day i:=rfl
   rw[e];by_cases hd:(x.shown.getD i zShown).day<=day
   ·rw[if_pos hd];refine WP.once ?_;simp only[T81,Tr.sure,SS,lookOf_b,hzb,hx,hi',z3,hd];repeat' with_reducible first|intro _|apply aI
    all_goals simp[hr,Go,Ends',v81,-List.getD_eq_getElem?_getD, *]
   ·rw[if_neg hd];refine WP.once ?_;simp only[T81,Tr.sure,SS,lookOf_b,hzb,hx,hi',z3,hd];repeat' with_reducible first|intro _|apply aI
    all_goals simp[hr,Go,Ends',v81,-List.getD_eq_getElem?_getD, *]
  ·have e:namedR x day=namedTo x day x.shown.length:=rfl;rw[e];refine WP.step ?_;simp only[T81,Go,Ends',v81,Tr.sure,SS,lookOf_b,hzb,hx,Int.lt_irrefl];repeat' with_reducible first|intro _|apply aI
 have hb1:=hb.1;have hb2:=hb.2;refine w81 (lookOf b) body day (WP.step ?_);simp only[T81,Go,Ends',v81,Tr.sure,SS,lookOf_b,hb1,hb2];repeat' with_reducible first|intro _|apply aI
 all_goals exact hmain
def cmpL:List Int->List Int->Int
 |[],[]=>0
 |[],_::_=> -1
 |_::_,[]=>1
 |x::l,y::m=>if compI x y≠0 then compI x y else cmpL l m
theorem compI_anti(x y:Int):compI y x= -compI x y:=by unfold compI;split<;>split<;>omega
theorem compI_zero{x y:Int}(h:compI x y=0):x=y:=by unfold compI at h;split at h<;>(try split at h)<;>omega
theorem cmpL_anti:∀l m:List Int,cmpL m l= -cmpL l m
 |[],[]=>rfl
 |[],_::_=>rfl
 |_::_,[]=>rfl
 |x::l,y::m=>by
  unfold cmpL;rw[compI_anti x y];by_cases h:compI x y=0
  ·rw[if_neg (by omega),if_neg (by omega)];exact cmpL_anti l m
  ·rw[if_pos (by omega),if_pos h]
theorem cmpL_zero:∀ {l m:List Int},cmpL l m=0->l=m
 |[],[],_=>rfl
 |[],_::_,h=>by cases h
 |_::_,[],h=>by cases h
 |x::l,y::m,h=>by
  unfold cmpL at h;by_cases h0:compI x y=0
  ·rw[if_neg (by omega)]at h;rw[compI_zero h0,cmpL_zero h]
  ·rw[if_pos h0]at h;exact absurd h h0
inductive P89g
 |e
 |l0 (x0_11:Int)
inductive R89g
 |r0 (r0:Int)
def T89g(s1:List Int)(s2:List Int):P89g->Tr P89g R89g
 |.e=>(.go (.l0 0))
 |.l0 x0_11=>let c1:=compI (s1.getD (x0_11).toNat tint.zero) (s2.getD (x0_11).toNat tint.zero);let c2:=(s2.length:Int);let c3:=(s1.length:Int);(.br (decide (x0_11<c3)) (.need (decide (0<=x0_11)&&decide (x0_11<c3)) (.br (decide (x0_11≥c2)) (.out (.r0 1)) (.need (decide (0<=x0_11)&&decide (x0_11<c2)) (.call 120 [iI (s1.getD (x0_11).toNat tint.zero),iI (s2.getD (x0_11).toNat tint.zero)] (iI c1) true true (.br (c1 !=(0:Int)) (.out (.r0 c1)) (.need (inR .i64 (x0_11+(1:Int))) (.go (.l0 (x0_11+(1:Int)))))))))) (.br (decide (c3<c2)) (.out (.r0 (-1))) (.out (.r0 0))))
noncomputable def g89g(s1:List Int)(s2:List Int):P89g->List Item × St
 |.e=>bd Tryz.f89 [tint.lst s1,tint.lst s2] 34
 |.l0 x0_11=>(cutOf Tryz.f89 0,⟨mk 36 [(0,tint.lst s1),(1,tint.lst s2),(9,tint.lst s1),(10,iI (s1.length:Int)),(11,iI x0_11)],[],[]⟩)
def n89g:R89g->Exit × St
 |.r0 r0=>(.ret,⟨mk 36 [(4,iI r0)],[],[]⟩)
def v89g:R89g->V
 |.r0 r0=>iI r0
theorem s89g(s1:List Int)(s2:List Int):Sm 0 (g89g s1 s2) (T89g s1 s2) (n89g)
 |.e=>⟨400,by kernel_rfl⟩
 |.l0 _=>⟨400,by kernel_rfl⟩
theorem q89g:∀r,bodyQ Tryz.prog Tryz.f89 (·=v89g r) (n89g r).1 (n89g r).2
 |.r0 r0=>bq (iI r0) (by kernel_rfl)
theorem w89g(s1:List Int)(s2:List Int){post:V->Prop}(h:WQ (T89g s1 s2) v89g post .e):PC 89 [tint.lst s1,tint.lst s2] post:=
 PCalls.wq Tryz.func89 (s89g s1 s2) q89g h
theorem c89g(s1 s2:List Int)(h1:s1.length<=1000)(h2:s2.length<=1000):PC 89 [tint.lst s1,tint.lst s2] (·=iI (cmpL s1 s2)):=by
 have k120:=fun x y=>c120 x y
 have hmain:WP Tryz.prog ⟨none,0⟩ (T89g s1 s2) (Ends' fun r=>v89g r=iI (cmpL s1 s2)) (.l0 0):=by
  refine WP.count (fun i=>.l0 (i:Int)) rfl s1.length (fun i=>cmpL s1 s2=cmpL (s1.drop i) (s2.drop i)/\i<=s2.length) ⟨rfl,Nat.zero_le _⟩ (fun i hi hI=> ?_) fun hI=> ?_
  ·have hr:inR .i64 ((i:Int)+1)=true:=inR64 (by omega) (by omega);have hi':(i:Int)<s1.length:=by omega
   have hci:((i+1:Nat):Int)=(i:Int)+1:=by omega
   rw[hci];obtain⟨hI1,hI2⟩:=hI;rw[drop_cons 0 s1 i hi]at hI1;by_cases hj:i<s2.length
   ·have hj':(i:Int)<s2.length:=by omega
    have hj2:¬(s2.length:Int)<=i:=by omega
    rw[drop_cons 0 s2 i hj]at hI1;have hI1':cmpL s1 s2=if compI (s1.getD i 0) (s2.getD i 0)≠0 then compI (s1.getD i 0) (s2.getD i 0)else cmpL (s1.drop (i+1)) (s2.drop (i+1)):=hI1
    by_cases hc:compI (s1.getD i 0) (s2.getD i 0)=0
    ·rw[if_neg (fun q=>q hc)]at hI1'
     have hnx:cmpL s1 s2=cmpL (s1.drop (i+1)) (s2.drop (i+1))/\i+1<=s2.length:=⟨hI1',hj⟩
     have kk:=k120 (s1.getD i 0) (s2.getD i 0);rw[hc]at kk;refine WP.step ?_;simp only[T89g,Go,Ends',v89g,Tr.sure,SS,hi',hj',hj2,z1,hc,Int.toNat_natCast];repeat' with_reducible first|intro _|apply aI
     all_goals first|exact kk|(simp[hr,Go,Ends',v89g,-List.getD_eq_getElem?_getD, *];done)|skip
     all_goals exact WP.stop (.inl ⟨rfl,hnx⟩)
    ·rw[if_pos hc]at hI1';have kk:=k120 (s1.getD i 0) (s2.getD i 0);refine WP.step ?_;simp only[T89g,Go,Ends',v89g,Tr.sure,SS,hi',hj',hj2,z1,hc,Int.toNat_natCast];repeat' with_reducible first|intro _|apply aI
     all_goals first|exact kk|(simp_all [hr,Go,Ends',v89g,-List.getD_eq_getElem?_getD];done)
     all_goals exact .inr (congrArg (V.int .i64) hI1'.symm)
   ·have hj2:(s2.length:Int)<=i:=by omega
    have e:s2.drop i=[]:=List.drop_eq_nil_of_le (by omega);rw[e]at hI1;have hI1':cmpL s1 s2=1:=hI1;refine WP.step ?_;simp only[T89g,Go,Ends',v89g,Tr.sure,SS,hi',hj2,z1,Int.toNat_natCast];repeat' with_reducible first|intro _|apply aI
    all_goals simp_all [hr,Go,Ends',v89g,-List.getD_eq_getElem?_getD]
    all_goals exact .inr (congrArg (V.int .i64) hI1'.symm)
  ·obtain⟨hI1,hI2⟩:=hI;rw[List.drop_length]at hI1;by_cases hj:s1.length<s2.length
   ·have hj':(s1.length:Int)<s2.length:=by omega
    rw[drop_cons 0 s2 s1.length hj]at hI1;have hI1':cmpL s1 s2= -1:=hI1;refine WP.step ?_;simp only[T89g,Go,Ends',v89g,Tr.sure,SS,hj',Int.toNat_natCast];repeat' with_reducible first|intro _|apply aI
    all_goals simp_all [Go,Ends',v89g,-List.getD_eq_getElem?_getD]
    all_goals exact congrArg (V.int .i64) hI1'.symm
   ·have hj':¬(s1.length:Int)<s2.length:=by omega
    have e:s2.drop s1.length=[]:=List.drop_eq_nil_of_le (by omega);rw[e]at hI1;have hI1':cmpL s1 s2=0:=hI1;refine WP.step ?_;simp only[T89g,Go,Ends',v89g,Tr.sure,SS,hj',Int.toNat_natCast];repeat' with_reducible first|intro _|apply aI
    all_goals simp_all [Go,Ends',v89g,-List.getD_eq_getElem?_getD]
    all_goals exact congrArg (V.int .i64) hI1'.symm
 refine w89g s1 s2 (WP.step ?_);simp only[T89g,Go,Ends',v89g,Tr.sure,SS];repeat' with_reducible first|intro _|apply aI
 all_goals exact hmain
end
end Go.Proofs.YtemgodefhcbleaaGreat
