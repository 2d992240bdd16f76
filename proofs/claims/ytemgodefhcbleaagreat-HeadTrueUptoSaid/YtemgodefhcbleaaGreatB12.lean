/-
  Part of the proof of the Head laws. Conditions: those that stand in each theorem.
-/
import Derived.Test.YtemgodefhcbleaaGreatB11
set_option linter.unusedSimpArgs false
set_option linter.unusedVariables false
set_option maxRecDepth 100000
namespace Go.Proofs.YtemgodefhcbleaaGreat
open Ab Go
noncomputable section
theorem lookOf_b(b:Book):(lookOf b).b=b:=rfl
theorem lookOf_len(b:Book):(lookOf b).pairs.length=b.lines.length:=by simp[lookOf]
theorem lookOf_pairs{b:Book}{ln:Nat}(h:ln<b.lines.length):(lookOf b).pairs.getD ln (tlist tPair).zero=pairsR (b.lines.getD ln zLine):=by
 simp[lookOf,gE,List.getElem?_map,List.getElem?_eq_getElem h]
theorem tel_setP(l:List Pair)(i:Nat)(p:Pair){n r j:Nat}(hr:r<n)(hj:j<2)(hn:l.length=n):
  VLe (if r=i/\0<=j/\j<0+([V.int .i64 p.a,V.int .i64 p.b]:List V).length then([V.int .i64 p.a,V.int .i64 p.b]:List V).getD (j-0) uU else rowsOf tPair l r j) (rowsOf tPair (l.set i p) r j):=
 tel_set tPair l i p (n:=n) (w:=2) [iI p.a,iI p.b] rfl rfl hn.symm r j hr hj
theorem tel_setH(l:List (Nat->Int))(i:Nat)(G:Nat->Int){n r j:Nat}(hr:r<n)(hj:j<5)(hn:l.length=n):
  VLe (if r=i/\0<=j/\j<0+([V.int .i64 (G 0),V.int .i64 (G 1),V.int .i64 (G 2),V.int .i64 (G 3),V.int .i64 (G 4)]:List V).length then([V.int .i64 (G 0),V.int .i64 (G 1),V.int .i64 (G 2),V.int .i64 (G 3),V.int .i64 (G 4)]:List V).getD (j-0) uU else rowsOf tHave l r j) (rowsOf tHave (l.set i G) r j):=
 tel_set tHave l i G (n:=n) (w:=5) [V.int .i64 (G 0),V.int .i64 (G 1),V.int .i64 (G 2),V.int .i64 (G 3),V.int .i64 (G 4)] rfl rfl hn.symm r j hr hj
theorem tel_updH(f:Nat->Int)(i:Nat)(a:Int){r j:Nat}(hj:j<1):VLe (if r=i/\0<=j/\j<0+([iI a]:List V).length then([iI a]:List V).getD (j-0) uU else rowsFn tint f r j) (rowsFn tint (upd f i a) r j):=by
 exact tel_upd tint f i a (n:=r+1) (w:=1) _ rfl rfl r j (by omega) hj
theorem tel_flatH(G:Nat->Int){r j:Nat}(hr:r<5)(hj:j<1):VLe (([V.int .i64 (G 0),V.int .i64 (G 1),V.int .i64 (G 2),V.int .i64 (G 3),V.int .i64 (G 4)]:List V).getD (r*1+j) uU) (rowsFn tint G r j):=by
 obtain rfl:j=0:=by omega
 rcases show r=0\/r=1\/r=2\/r=3\/r=4 by omega with rfl|rfl|rfl|rfl|rfl<;>exact VLe.refl _
def nxT(X:Ext)(b:Book)(but:Int)(k:Int)(s:St3):St3:=walkT X b but (b.lines.length-k.toNat) k.toNat s
abbrev nextH(b:Book)(but:Int):V:=fG 111 [rR (lk (lookOf b)),.ref 1 0 0,.ref 4 0 0,rR (iI but),.ref 5 0 0]
abbrev HT(X:Ext)(b:Book)(but:Int)(s:St3):List Blk:=[.ext X s.2,.cells [.yld 0],.rows 95 2 b.lines.length (rowsOf tPair s.1.1),.rows 128 5 (b.lines.length+1) (rowsOf tHave s.1.2),.cells [.row 2 b.lines.length,.row 3 (b.lines.length+1)],.cells [nextH b but]]
abbrev AT(b:Book)(but:Int)(k:Int):List V:=[iI k,rR (lk (lookOf b)),.ref 1 0 0,.ref 4 0 0,rR (iI but),.ref 5 0 0]
theorem under5(a b c d e:Int):underL 0 [V.int .i64 a,iI b,iI c,iI d,iI e]=true:=rfl
theorem under2(a b:Int):underL 0 [V.int .i64 a,iI b]=true:=rfl
theorem e33:((3:Int)==3)=true:=rfl
theorem e43:((4:Int)==3)=false:=rfl
theorem under1(a:Int):underL 0 [V.int .i64 a]=true:=rfl
theorem zP0:tPair.zero=zPair:=rfl
theorem zL0:tLine.zero=zLine:=rfl
set_option maxHeartbeats 8000000 in
theorem c111(X:Ext)(hY:YSpecL Tryz.prog X)(b:Book)(h:OkBook b)(but:Int):∀(n ln:Nat) (s:St3),ln+n=b.lines.length->X.go s.2=true->s.1.1.length=b.lines.length->s.1.2.length=b.lines.length+1->s.2++ysT b but n ln s.1<+:X.ys->
  HCalls Tryz.prog 111 (AT b but ln) (.bool (X.go (walkT X b but n ln s).2)) (HT X b but s) (HT X b but (walkT X b but n ln s))
 |0,ln,s,hn,hg,hP,hH,hp=>by
  obtain⟨⟨P,H⟩,tr⟩:=s;have hi:((ln:Int)==(b.lines.length:Int))=true:=by rw[beq_iff_eq];omega
  have kov:=ovY hY b.lines.length (lookOf b) but tr P H hg hp;have hw:walkT X b but 0 ln ((P,H),tr)=((P,H),tr++ [yV b.lines.length P H]):=rfl;rw[hw];refine w111 X b.lines.length (lookOf b) but (nxT X b but) tr P H ln (WP.step ?_);simp only[T111,Go,Ends',v111,Tr.sure,SS,hi,lookOf_b];repeat' with_reducible first|intro _|apply aI
  all_goals first|exact(by with_reducible exact kov)|(simp[hh111,yV,hg,Go,Ends',v111,-List.getD_eq_getElem?_getD, *];done)
 |n+1,ln,s,hn,hg,hP,hH,hp=>by
  obtain⟨⟨P,H⟩,tr⟩:=s;have hlt:ln<b.lines.length:=by omega
  have hlt':(ln:Int)<b.lines.length:=by omega
  have h8:=h.nl;have hi:((ln:Int)==(b.lines.length:Int))=false:=by rw[beq_eq_false_iff_ne];omega
  have hll:=lookOf_len b;have hpl:=lookOf_pairs hlt;have hw0:walkT X b but (n+1) ln ((P,H),tr)=natF (stepW X b but (walkT X b but n (ln+1)) ln) ((P,H),tr) (manyP b ln):=rfl
  have hmain:WP Tryz.prog ⟨none,6⟩ (T111 X b.lines.length (lookOf b) but (nxT X b but) tr P H ln) (Ends' fun r=>v111 X b.lines.length (lookOf b) but (nxT X b but) tr P H r=.bool (X.go (walkT X b but (n+1) ln ((P,H),tr)).2)/\hh111 X b.lines.length (lookOf b) but (nxT X b but) tr P H r=HT X b but (walkT X b but (n+1) ln ((P,H),tr))) (.l0 0 tr P H):=by
   have hop:=h.line hlt;have h5:=h.nb;have hpin:=fun p hp hk=>pairs_in hop (p:=p) hp hk;have hplen:=pairs_len (b.lines.getD ln zLine);have hkk:=hop.kind;have hab:=hop.ab;have hmany:manyP b ln=(pairsR (b.lines.getD ln zLine)).length:=rfl;have hcast:((ln:Int)+1).toNat=ln+1:=by omega
   have hl0:0<=(ln:Int)+1:=by omega
   have hr1:inR .i64 ((ln:Int)+1)=true:=inR64 (by omega) (by omega);have hl1:(ln:Int)+1<((b.lines.length+1:Nat):Int):=by omega
   have hl1':(ln:Int)+1<(b.lines.length:Int)+1:=by omega
   have hl2:ln<b.lines.length+1:=by omega
   have hl2':(ln:Int)<(b.lines.length:Int)+1:=by omega
   have hl3:ln+1<b.lines.length+1:=by omega
   have hnx:∀s,nxT X b but ((ln:Int)+1) s=walkT X b but n (ln+1) s:=fun s=>by
    unfold nxT;rw[hcast,show b.lines.length-(ln+1)=n by omega]
   have ihh:∀(s:St3) (c7:List V) (a2 b2:Int) (c8:Nat->Nat->V),X.go s.2=true->s.1.1.length=b.lines.length->s.1.2.length=b.lines.length+1->s.2++ysT b but n (ln+1) s.1<+:X.ys->
     (Blk.cells c7).under 6=true->
     HCalls Tryz.prog 111 (AT b but ((ln:Int)+1)) (.bool (X.go (walkT X b but n (ln+1) s).2)) (HT X b but s++ [.cells c7,.cells [iI a2,iI b2],.rows 128 1 5 c8]) (HT X b but (walkT X b but n (ln+1) s)++ [.cells c7,.cells [iI a2,iI b2],.rows 128 1 5 c8]):=fun s c7 a2 b2 c8 q1 q2 q3 q4 _=>by
    have:=c111 X hY b h but n (ln+1) s (by omega) q1 q2 q3 q4;rw[show((ln+1:Nat):Int)=(ln:Int)+1 by omega]at this;refine this.more rfl rfl rfl (fun i Y tr hi=> ?_) _ rfl
    match i,hi with
    |0,hi=>cases hi;exact⟨_,rfl⟩
    |1,hi=>cases hi
    |2,hi=>cases hi
    |3,hi=>cases hi
    |4,hi=>cases hi
    |5,hi=>cases hi
    |i+6,hi=>simp at hi
   have hspec:=fun t q1 q2 q3=>walk_spec X b but n (ln+1) t q1 q2 q3;have hstop:=fun {i:Nat} (q:X.go (natF (stepW X b but (walkT X b but n (ln+1)) ln) ((P,H),tr) i).2=false) k=>fold_stop X b but (walkT X b but n (ln+1)) ln ((P,H),tr) q k;have hfold:=fun i=>fold_spec X b but n ln ((P,H),tr) (show P.length=_ by rw[show P.length=b.lines.length from hP];omega) (show H.length=_ by rw[show H.length=b.lines.length+1 from hH];omega) (fun t q1 q2 q3=>walk_spec X b but n (ln+1) t q1 (by omega) (by omega)) i
   have hfbit:=fun(q:bitB but ln=true) {i:Nat} (hi:0<i) k=>fold_bit X b but (walkT X b but n (ln+1)) ln ((P,H),tr) q hi k;have hleaf:=ysT_step b but n ln (P,H);rw[hw0];simp only at hp hP hH hg;rw[hleaf]at hp;generalize hW:walkT X b but n (ln+1)=W at*
   obtain⟨st,hst⟩:∃st:Nat->St3,∀i,st i=natF (stepW X b but W ln) ((P,H),tr) i:=⟨_,fun _=>rfl⟩
   simp only[<-hst]at hstop hfold hfbit⊢;have h00:st 0=((P,H),tr):=by rw[hst];rfl
   have hsucc:∀i,st (i+1)=stepW X b but W ln i (st i):=fun i=>by rw[hst,hst];rfl
   refine WP.count (fun i=>.l0 (i:Int) (st i).2 (st i).1.1 (st i).1.2) (by rw[h00];simp) (manyP b ln) (fun i=>X.go (st i).2=true) (by rw[h00];exact hg) (fun i hi hI=> ?_) fun hI=> ?_
   ·obtain⟨f1,f2⟩:=hfold i;have hsn:=hsucc i;have hr2:inR .i64 ((i:Int)+1)=true:=inR64 (by omega) (by omega);have hi1:(i:Int)<((pairsR (b.lines.getD ln zLine)).length:Int):=by omega
    have hrest:X.go (st (i+1)).2=false->st (manyP b ln)=st (i+1):=fun q=>by
     have:=hstop q (manyP b ln-(i+1));rwa[show i+1+(manyP b ln-(i+1))=manyP b ln by omega]at this
    have hPl:(st i).1.1.length=b.lines.length:=by rw[f2.l1];exact hP
    have hHl:(st i).1.2.length=b.lines.length+1:=by rw[f2.l2];exact hH
    have hpf:(st i).2++ysAt b but n ln i (st i).1<+:X.ys:=by
     have e0:ysAt b but n ln i (st i).1=ysAt b but n ln i (P,H):=ysAt_congr f2 (by rw[hPl];omega) (by rw[hHl];omega);rw[e0]
     have hfa:(st i).2=tr++(List.range i).flatMap fun i=>ysAt b but n ln i (P,H):=by
      rw[f1];exact feed_all (by rw[<-f1];exact hI)
     rw[hfa];refine List.IsPrefix.trans ?_ hp;rw[List.append_assoc];refine(List.prefix_append_right_inj tr).2 ?_
     have e1:List.range (manyP b ln)=List.range i++(List.range (manyP b ln)).drop i:=by
      conv=>lhs;rw[<-List.take_append_drop i (List.range (manyP b ln))]
      rw[List.take_range,Nat.min_eq_left (by omega)]
     have e2:(List.range (manyP b ln)).drop i=i::(List.range (manyP b ln)).drop (i+1):=by
      rw[List.drop_eq_getElem_cons (by simpa using hi),List.getElem_range]
     rw[e1,e2,List.flatMap_append,List.flatMap_cons];exact(List.prefix_append_right_inj _).2 (List.prefix_append _ _)
    have hbit2:bitB but ln=true->¬(i:Int)<=0->st (manyP b ln)=st i:=fun q1 q2=>by
     have:=hfbit q1 (i:=i) (by omega) (manyP b ln-i);rwa[show i+(manyP b ln-i)=manyP b ln by omega]at this
    have hmem:(pairsR (b.lines.getD ln zLine)).getD i zPair∈pairsR (b.lines.getD ln zLine):=getD_mem zPair _ i (by omega);have hpin2:=hpin _ hmem;have hci:((i+1:Nat):Int)=(i:Int)+1:=by omega
    rw[hci]
    have hput:∀G,wayAt b but ln i (st i).1.2=some G->st (i+1)=W (((st i).1.1.set ln ((pairsR (b.lines.getD ln zLine)).getD i zPair),(st i).1.2.set (ln+1) G),(st i).2)/\
      ∀(c7:List V) (a2 b2:Int) (c8:Nat->Nat->V),(Blk.cells c7).under 6=true->HCalls Tryz.prog 111 (AT b but ((ln:Int)+1)) (.bool (X.go (st (i+1)).2)) (HT X b but (((st i).1.1.set ln ((pairsR (b.lines.getD ln zLine)).getD i zPair),(st i).1.2.set (ln+1) G),(st i).2)++ [.cells c7,.cells [iI a2,iI b2],.rows 128 1 5 c8]) (HT X b but (st (i+1))++ [.cells c7,.cells [iI a2,iI b2],.rows 128 1 5 c8]):=fun G hG=>by
     have e:=hsn;rw[stepW_some hI hG]at e;have e':st (i+1)=W (((st i).1.1.set ln ((pairsR (b.lines.getD ln zLine)).getD i zPair),(st i).1.2.set (ln+1) G),(st i).2):=e;refine⟨e',fun c7 a2 b2 c8 hu=> ?_⟩;rw[e'];refine ihh _ c7 a2 b2 c8 hI (by simpa using hPl) (by simpa using hHl) ?_ hu;have:=hpf;unfold ysAt at this;rw[hG]at this;exact this
    have hnone:wayAt b but ln i (st i).1.2=none->st (i+1)=st i:=fun hG=>by rw[hsn];exact stepW_none hG
    have hbitE:bitB but ln=((bitsOf .and .i64 (but.fdiv (2^(min ln 64))) (1:Int))==(1:Int)):=rfl;have hwayE:wayAt b but ln i (st i).1.2=wayP (bitB but ln) (b.lines.getD ln zLine) i ((pairsR (b.lines.getD ln zLine)).getD i zPair) ((st i).1.2.getD ln tHave.zero):=rfl;generalize hp0:(pairsR (b.lines.getD ln zLine)).getD i zPair=p at*
    generalize hL:b.lines.getD ln zLine=L at*
    generalize hS0:st i=S0 at*
    generalize hS1:st (i+1)=S1 at*
    generalize hSn:st (manyP b ln)=Sn at*
    clear hfold hfbit hstop hsucc hspec hpin ihh hpf f1 f2 hp hst h00 hsn hmem hleaf hw0 hg
    obtain⟨⟨P0,H0⟩,t0⟩:=S0;simp only at*;generalize hF:H0.getD ln tHave.zero=F at*
    have hL1:=hkk
    cases hbb:bitB but ln with
    |true=>
     have hb1:((bitsOf .and .i64 (but.fdiv (2^(min ln 64))) (1:Int))==(1:Int))=true:=by rw[<-hbitE];exact hbb
     by_cases hi0:(i:Int)<=0
     ·have hi00:i=0:=by omega
      have hi01:¬(0:Int)<i:=by omega
      have hG:wayAt b but ln i H0=some F:=by rw[hwayE];unfold wayP;rw[if_pos hbb,if_pos hi00]
      obtain⟨e1,kc⟩:=hput _ hG;have e2:=e1.symm;refine WP.step ?_;simp only[T111,Go,Ends',v111,Tr.sure,SS,hb1,hi01,hnx,e2,Int.toNat_natCast,hpl,hF,hll,lookOf_b,zP0,zL0,hcast,hi1,hp0,hL,hl0];repeat' with_reducible first|intro _|apply aI
      all_goals first|exact(kc _ _ _ _ rfl)|exact(by with_reducible exact under2 _ _)|exact(by with_reducible exact under5 _ _ _ _ _)|exact(by with_reducible exact hr1)|exact(by with_reducible exact hr2)|exact(by with_reducible exact tel_setP _ _ _ (by assumption) (by assumption) (by assumption))|exact(by with_reducible exact tel_setH _ _ _ (by assumption) (by assumption) (by assumption))|exact(by with_reducible exact tel_flatH _ (by assumption) (by assumption))|(simp[hr1,hr2,Go,Ends',v111,-List.getD_eq_getElem?_getD, *];done)|skip
      all_goals first|exact WP.stop (.inl ⟨rfl,by with_reducible assumption⟩)|(right;rw[hrest (by with_reducible assumption),show X.go S1.2=false by with_reducible assumption];first|exact rfl|exact⟨rfl,rfl⟩)
     ·have hi01:(0:Int)<i:=by omega
      have e1:=hbit2 hbb hi0;refine WP.step ?_;simp only[T111,Go,Ends',v111,Tr.sure,SS,hb1,hi01,hnx,Int.toNat_natCast,hpl,hF,hll,lookOf_b,zP0,zL0,hcast,hi1,hp0,hL,hl0];repeat' with_reducible first|intro _|apply aI
      all_goals first|exact(by with_reducible exact tel_flatH _ (by assumption) (by assumption))|(simp[hr1,hr2,Go,Ends',v111,-List.getD_eq_getElem?_getD, *];done)|skip
      all_goals(right;rw[e1];exact⟨congrArg V.bool hI.symm,rfl⟩)
    |false=>
     have hbn:¬bitB but ln=true:=by rw[hbb];decide
     have hb1:((bitsOf .and .i64 (but.fdiv (2^(min ln 64))) (1:Int))==(1:Int))=false:=by rw[<-hbitE];exact hbb
     by_cases k3:L.kind=3
     ·obtain⟨⟨ha0,ha1⟩,hb0,hb1'⟩:=hab (by omega);have ha5:L.a<5:=by omega
      by_cases hv:F L.a.toNat=L.b
      ·have hvb:(F L.a.toNat==L.b)=true:=by rw[beq_iff_eq];exact hv
       have hG:wayAt b but ln i H0=some F:=by rw[hwayE];unfold wayP;rw[if_neg hbn,if_pos k3,if_pos hv]
       obtain⟨e1,kc⟩:=hput _ hG;have e2:=e1.symm;refine WP.step ?_;simp only[T111,Go,Ends',v111,Tr.sure,SS,hb1,k3,hv,hvb,e33,e43,ha0,ha5,hnx,e2,Int.toNat_natCast,hpl,hF,hll,lookOf_b,zP0,zL0,hcast,hi1,hp0,hL,hl0];repeat' with_reducible first|intro _|apply aI
       all_goals first|exact(kc _ _ _ _ rfl)|exact(by with_reducible exact under2 _ _)|exact(by with_reducible exact under5 _ _ _ _ _)|exact(by with_reducible exact hr1)|exact(by with_reducible exact hr2)|exact(by with_reducible exact tel_setP _ _ _ (by assumption) (by assumption) (by assumption))|exact(by with_reducible exact tel_setH _ _ _ (by assumption) (by assumption) (by assumption))|exact(by with_reducible exact tel_flatH _ (by assumption) (by assumption))|(simp[hr1,hr2,Go,Ends',v111,-List.getD_eq_getElem?_getD, *];done)|skip
       all_goals first|exact WP.stop (.inl ⟨rfl,by with_reducible assumption⟩)|(right;rw[hrest (by with_reducible assumption),show X.go S1.2=false by with_reducible assumption];first|exact rfl|exact⟨rfl,rfl⟩)
      ·have hvb:(F L.a.toNat==L.b)=false:=by rw[beq_eq_false_iff_ne];exact hv
       have hG:wayAt b but ln i H0=none:=by rw[hwayE];unfold wayP;rw[if_neg hbn,if_pos k3,if_neg hv]
       have e1:=hnone hG;subst e1;refine WP.step ?_;simp only[T111,Go,Ends',v111,Tr.sure,SS,hb1,k3,hv,hvb,e33,e43,ha0,ha5,hnx,Int.toNat_natCast,hpl,hF,hll,lookOf_b,zP0,zL0,hcast,hi1,hp0,hL,hl0];repeat' with_reducible first|intro _|apply aI
       all_goals first|exact(by with_reducible exact hr2)|exact(by with_reducible exact tel_flatH _ (by assumption) (by assumption))|(simp[hr1,hr2,Go,Ends',v111,-List.getD_eq_getElem?_getD, *];done)|skip
       all_goals exact WP.stop (.inl ⟨rfl,hI⟩)
     by_cases k4:L.kind=4
     ·obtain⟨⟨ha0,ha1⟩,hb0,hb1'⟩:=hab (by omega);have ha5:L.a<5:=by omega
      by_cases hv:F L.a.toNat=L.b
      ·have hvb:(F L.a.toNat==L.b)=true:=by rw[beq_iff_eq];exact hv
       have hG:wayAt b but ln i H0=none:=by rw[hwayE];unfold wayP;rw[if_neg hbn,if_neg k3,if_pos k4,if_pos hv]
       have e1:=hnone hG;subst e1;refine WP.step ?_;simp only[T111,Go,Ends',v111,Tr.sure,SS,hb1,k3,k4,hv,hvb,e33,e43,ha0,ha5,hnx,Int.toNat_natCast,hpl,hF,hll,lookOf_b,zP0,zL0,hcast,hi1,hp0,hL,hl0];repeat' with_reducible first|intro _|apply aI
       all_goals first|exact(by with_reducible exact hr2)|exact(by with_reducible exact tel_flatH _ (by assumption) (by assumption))|(simp[hr1,hr2,Go,Ends',v111,-List.getD_eq_getElem?_getD, *];done)|skip
       all_goals exact WP.stop (.inl ⟨rfl,hI⟩)
      ·have hvb:(F L.a.toNat==L.b)=false:=by rw[beq_eq_false_iff_ne];exact hv
       have hG:wayAt b but ln i H0=some F:=by rw[hwayE];unfold wayP;rw[if_neg hbn,if_neg k3,if_pos k4,if_neg hv]
       obtain⟨e1,kc⟩:=hput _ hG;have e2:=e1.symm;refine WP.step ?_;simp only[T111,Go,Ends',v111,Tr.sure,SS,hb1,k3,k4,hv,hvb,e33,e43,ha0,ha5,hnx,e2,Int.toNat_natCast,hpl,hF,hll,lookOf_b,zP0,zL0,hcast,hi1,hp0,hL,hl0];repeat' with_reducible first|intro _|apply aI
       all_goals first|exact(kc _ _ _ _ rfl)|exact(by with_reducible exact under2 _ _)|exact(by with_reducible exact under5 _ _ _ _ _)|exact(by with_reducible exact hr1)|exact(by with_reducible exact hr2)|exact(by with_reducible exact tel_setP _ _ _ (by assumption) (by assumption) (by assumption))|exact(by with_reducible exact tel_setH _ _ _ (by assumption) (by assumption) (by assumption))|exact(by with_reducible exact tel_flatH _ (by assumption) (by assumption))|(simp[hr1,hr2,Go,Ends',v111,-List.getD_eq_getElem?_getD, *];done)|skip
       all_goals first|exact WP.stop (.inl ⟨rfl,by with_reducible assumption⟩)|(right;rw[hrest (by with_reducible assumption),show X.go S1.2=false by with_reducible assumption];first|exact rfl|exact⟨rfl,rfl⟩)
     obtain⟨hp1,hp2,hp3⟩:=hpin2 (by omega);have hpz:¬p=zPair:=fun q=>by rw[q]at hp2;exact absurd hp2 (by decide)
     have hz1:(p.a==0&&(p.b==0&&true))=false:=by
      cases q:(p.a==0&&(p.b==0&&true))with
      |false=>rfl
      |true=>simp only[Bool.and_eq_true,beq_iff_eq]at q;omega
     have hpa5:p.a<5:=by omega
     have hpb5:p.b<5:=by omega
     have hpb0:0<=p.b:=by omega
     have hpa5n:p.a.toNat<5:=by omega
     have hpb5n:p.b.toNat<5:=by omega
     have hG:wayAt b but ln i H0=some (upd (upd F p.a.toNat (F p.b.toNat)) p.b.toNat (F p.a.toNat)):=by rw[hwayE];unfold wayP;rw[if_neg hbn,if_neg k3,if_neg k4,if_neg hpz];rfl
     obtain⟨e1,kc⟩:=hput _ hG;have e2:=e1.symm;refine WP.step ?_;simp only[T111,Go,Ends',v111,Tr.sure,SS,hb1,k3,k4,hz1,hp1,hpa5,hpb0,hpb5,hpa5n,hpb5n,hnx,e2,Int.toNat_natCast,hpl,hF,hll,lookOf_b,zP0,zL0,hcast,hi1,hp0,hL,hl0];repeat' with_reducible first|intro _|apply aI
     all_goals first|exact(kc _ _ _ _ rfl)|exact(by with_reducible exact under1 _)|exact(by with_reducible exact under2 _ _)|exact(by with_reducible exact under5 _ _ _ _ _)|exact(by with_reducible exact hr1)|exact(by with_reducible exact hr2)|exact(by with_reducible exact tel_setP _ _ _ (by assumption) (by assumption) (by assumption))|exact(by with_reducible exact tel_setH _ _ _ (by assumption) (by assumption) (by assumption))|exact(by with_reducible exact tel_flatH _ (by assumption) (by assumption))|exact(by with_reducible exact tel_updH _ _ _ (by assumption))|(simp[hr1,hr2,Go,Ends',v111,-List.getD_eq_getElem?_getD, *];done)|skip
     all_goals first|exact WP.stop (.inl ⟨rfl,by with_reducible assumption⟩)|(right;rw[hrest (by with_reducible assumption),show X.go S1.2=false by with_reducible assumption];first|exact rfl|exact⟨rfl,rfl⟩)
   ·have hno:¬((manyP b ln:Nat):Int)<((pairsR (b.lines.getD ln zLine)).length:Int):=by omega
    clear hfold hfbit hstop hsucc hspec hpin ihh hp hleaf hw0
    generalize hSn:st (manyP b ln)=Sn at*
    refine WP.step ?_;simp only[T111,Go,Ends',v111,Tr.sure,SS,hno,hnx,Int.toNat_natCast,hpl,hll,lookOf_b,zP0,zL0,hcast];repeat' with_reducible first|intro _|apply aI
    all_goals first|(simp[Go,Ends',v111,-List.getD_eq_getElem?_getD, *];done)|skip
    all_goals exact rfl
  refine w111 X b.lines.length (lookOf b) but (nxT X b but) tr P H ln (WP.step ?_);simp only[T111,Go,Ends',v111,Tr.sure,SS,hi,lookOf_b];repeat' with_reducible first|intro _|apply aI
  all_goals first|exact hmain|(simp[hlt,hlt',hll,Go,Ends',v111,-List.getD_eq_getElem?_getD, *];done)
end
noncomputable section
def fnH(l:List Int):Nat->Int:=fun j=>if j<5 then(if j<l.length then l.getD j 0 else(j:Int))else 0
def butL(b:Book)(but:Int):List Int:=((List.range b.lines.length).filter (bitB but)).map fun(i:Nat)=>(i:Int)
theorem butL_has{b:Book}{but:Int}{i:Nat}(hi:i<b.lines.length):hasN (butL b but) (i:Int)=bitB but i:=by
 rw[Bool.eq_iff_iff,hasN,List.any_eq_true];constructor
 ·rintro⟨x,hx,hxi⟩
  simp only[butL,List.mem_map,List.mem_filter,List.mem_range]at hx;obtain⟨j,⟨_,hj⟩,rfl⟩:=hx;rw[beq_iff_eq]at hxi;have:j=i:=by omega
  rw[<-this];exact hj
 ·intro h;refine⟨(i:Int),?_,by simp⟩;simp only[butL,List.mem_map,List.mem_filter,List.mem_range];exact⟨i,⟨hi,h⟩,rfl⟩
theorem fnH_get{l:List Int}{j:Nat}(h:j<l.length)(h5:j<5):fnH l j=l.getD j 0:=by unfold fnH;rw[if_pos h5,if_pos h]
theorem fnH_swap{l:List Int}{p:Pair}(hl:l.length<=5)(h0:0<=p.a)(h1:p.a<p.b)(h2:p.b<l.length):fnH (swapR l p)=swapF (fnH l) p:=by
 obtain⟨a,ha⟩:∃a:Nat,p.a=a:=⟨p.a.toNat,by omega⟩
 obtain⟨c,hc⟩:∃c:Nat,p.b=c:=⟨p.b.toNat,by omega⟩
 funext j
 unfold swapF swapR;rw[ha,hc,Int.toNat_natCast,Int.toNat_natCast,fnH_get (j:=a) (by omega) (by omega),fnH_get (j:=c) (by omega) (by omega)];unfold upd;by_cases e1:j=c
 ·subst e1;rw[if_pos rfl,fnH_get (by simp;omega) (by omega),gE,List.getElem?_set_self (by simp;omega)];rfl
 rw[if_neg e1];by_cases e2:j=a
 ·subst e2;rw[if_pos rfl,fnH_get (by simp;omega) (by omega),gE,sN (by omega),List.getElem?_set_self (by omega)];rfl
 rw[if_neg e2];unfold fnH;by_cases h5:j<5
 ·rw[if_pos h5,if_pos h5];by_cases hj:j<l.length
  ·rw[if_pos hj,if_pos (by simpa using hj),gE,sN (Ne.symm e1),sN (Ne.symm e2),<-List.getD_eq_getElem?_getD]
  ·rw[if_neg hj,if_neg (by simpa using hj)]
 ·rw[if_neg h5,if_neg h5]
def restT(b:Book)(but:List Int):Nat->Nat->Truth->List Truth
 |0,_,t=>[t]
 |n+1,ln,t=>(stepT b but ln t).flatMap (restT b but n (ln+1))
theorem truths_rest(b:Book)(but:List Int):∀m i:Nat,truthsTo b but (i+m)=(truthsTo b but i).flatMap (restT b but m i)
 |0,i=>by simp[restT]
 |m+1,i=>by
  rw[show i+(m+1)=(i+1)+m by omega,truths_rest b but m (i+1),truthsTo,List.flatMap_assoc];rfl
structure RepT(b:Book)(ln:Nat)(s:St2)(t:Truth):Prop where
 l1:s.1.length=b.lines.length
 l2:s.2.length=b.lines.length+1
 e1:s.1.take ln=t.pairs
 e2:s.2.take (ln+1)=t.haves.map fnH
def toS(t:Truth):St2:=(t.pairs,t.haves.map fnH)
theorem RepT.put{b:Book}{ln i:Nat}{s:St2}{t:Truth}(h:RepT b ln s t)(hln:ln<b.lines.length){G:Nat->Int}{l:List Int}(hG:G=fnH l):
  RepT b (ln+1) (putS b ln i s G) ⟨t.pairs++ [(pairsR (b.lines.getD ln zLine)).getD i zPair],t.haves++ [l]⟩:=by
 refine⟨by simp[putS,h.l1],by simp[putS,h.l2],?_,?_⟩
 ·simp only[putS];rw[List.take_add_one,List.take_set_of_le (Nat.le_refl _),h.e1,List.getElem?_set_self (by rw[h.l1];exact hln)];rfl
 ·simp only[putS];rw[List.take_add_one,List.take_set_of_le (Nat.le_refl _),h.e2,List.getElem?_set_self (by rw[h.l2];omega),List.map_append,hG];rfl
theorem ways_leaf{b:Book}(h:OkBook b)(but:Int){ln i:Nat}{s:St2}{t:Truth}(hr:RepT b ln s t)(hok:OkT b.bodies.length ln t)(hln:ln<b.lines.length)(hi:i<manyP b ln):
  (wayAt b but ln i s.2=none/\waysR (butL b but) ln (b.lines.getD ln zLine) t i ((pairsR (b.lines.getD ln zLine)).getD i zPair)=[])\/
  ∃(G:Nat->Int) (u:Truth),wayAt b but ln i s.2=some G/\waysR (butL b but) ln (b.lines.getD ln zLine) t i ((pairsR (b.lines.getD ln zLine)).getD i zPair)=[u]/\RepT b (ln+1) (putS b ln i s G) u:=by
 have hline:=h.line hln;have hmem:(pairsR (b.lines.getD ln zLine)).getD i zPair∈pairsR (b.lines.getD ln zLine):=getD_mem zPair _ i hi;have hpin:=pairs_in hline hmem;have hll:(t.haves.getD ln []).length=b.bodies.length:=hok.have_ _ (getD_mem [] _ ln (by rw[hok.nh];omega))
 have hF:s.2.getD ln tHave.zero=fnH (t.haves.getD ln []):=by
  have e:(s.2.take (ln+1))[ln]? =(t.haves.map fnH)[ln]? :=by rw[hr.e2]
  rw[List.getElem?_take_of_lt (by omega),List.getElem?_map,List.getElem?_eq_getElem (l:=t.haves) (by rw[hok.nh];omega)]at e;rw[gE,e,gE,List.getElem?_eq_getElem (by rw[hok.nh];omega)];rfl
 have hab:=hline.ab;have hkd:=hline.kind;have hnb:=h.nb;have key:=fun(G:Nat->Int) (l:List Int) (e:G=fnH l)=>hr.put (i:=i) hln e;unfold wayAt waysR;rw[hF,butL_has hln];generalize hL:b.lines.getD ln zLine=L at*
 generalize(pairsR L).getD i zPair=p at*
 generalize hl:t.haves.getD ln []=l at*
 unfold wayP;by_cases hb:bitB but ln=true
 ·rw[if_pos hb,if_pos hb];by_cases h0:i=0
  ·rw[if_pos h0,if_pos h0];exact .inr ⟨_,_,rfl,rfl,key _ _ rfl⟩
  ·rw[if_neg h0,if_neg h0];exact .inl ⟨rfl,rfl⟩
 rw[if_neg hb,if_neg hb];unfold doneR
 have hget:3<=L.kind->fnH l L.a.toNat=l.getD L.a.toNat 0:=fun hk=>by
  have:=hab (by omega);exact fnH_get (by omega) (by omega)
 by_cases k3:L.kind=3
 ·rw[if_pos k3,if_pos k3,hget (by omega)];by_cases hv:l.getD L.a.toNat 0=L.b
  ·rw[if_pos hv,if_pos (by simpa using hv)];exact .inr ⟨_,_,rfl,rfl,key _ _ rfl⟩
  ·rw[if_neg hv,if_neg (by simpa using hv)];exact .inl ⟨rfl,rfl⟩
 rw[if_neg k3,if_neg k3];by_cases k4:L.kind=4
 ·rw[if_pos k4,if_pos k4,hget (by omega)];by_cases hv:l.getD L.a.toNat 0=L.b
  ·rw[if_pos hv,if_neg (by simpa using hv)];exact .inl ⟨rfl,rfl⟩
  ·rw[if_neg hv,if_pos (by simpa using hv)];exact .inr ⟨_,_,rfl,rfl,key _ _ rfl⟩
 rw[if_neg k4,if_neg k4];obtain⟨p1,p2,p3⟩:=hpin (by omega);rw[if_neg (fun q=>by rw[q]at p2;exact absurd p2 (by decide)),if_pos rfl];exact .inr ⟨_,_,rfl,rfl,key _ _ (fnH_swap (by omega) p1 p2 (by omega)).symm⟩
theorem leaf_rest{b:Book}(h:OkBook b)(but:Int):∀(n ln:Nat) (s:St2) (t:Truth),ln+n=b.lines.length->RepT b ln s t->OkT b.bodies.length ln t->leafT b but n ln s=(restT b (butL b but) n ln t).map toS
 |0,ln,s,t,hn,hr,hok=>by
  have q1:s.1=t.pairs:=by rw[<-hr.e1,List.take_of_length_le (by rw[hr.l1];omega)]
  have q2:s.2=t.haves.map fnH:=by rw[<-hr.e2,List.take_of_length_le (by rw[hr.l2];omega)]
  show[s]=[toS t];rw[show s=toS t from Prod.ext q1 q2]
 |n+1,ln,s,t,hn,hr,hok=>by
  unfold leafT restT stepT;rw[List.flatMap_assoc,List.map_flatMap];show(List.range (manyP b ln)).flatMap _=(List.range (manyP b ln)).flatMap _
  have hcong:∀(f g:Nat->List St2) (m:Nat),(∀i,i<m->f i=g i)->(List.range m).flatMap f=(List.range m).flatMap g:=fun f g m hfg=>by
   induction m with
   |zero=>rfl
   |succ m ih=>rw[List.range_succ,List.flatMap_append,List.flatMap_append,ih fun i hi=>hfg i (by omega)];simp[hfg m (by omega)]
  refine hcong _ _ _ fun i hi=> ?_;rcases ways_leaf h but hr hok (by omega) hi with⟨e1,e2⟩|⟨G,u,e1,e2,e3⟩
  ·rw[e1,e2];rfl
  ·rw[e1,e2];have:=leaf_rest h but n (ln+1) _ u (by omega) e3 (ways_ok hok u (by rw[e2];exact List.mem_singleton.2 rfl));simp only[List.flatMap_cons,List.flatMap_nil,List.append_nil];exact this
def fId:Nat->Int:=fn5 0 1 2 3 4
theorem fId_eq{b:Book}(h:OkBook b):fId=fnH (firstH b):=by
 have h5:=h.nb;funext j
 unfold fId fn5 fnH firstH;by_cases hj:j<5
 ·rw[if_pos hj]
  have e:([0,1,2,3,4]:List Int).getD j 0=(j:Int):=by
   rcases show j=0\/j=1\/j=2\/j=3\/j=4 by omega with rfl|rfl|rfl|rfl|rfl<;>rfl
  rw[e];by_cases hb:j<b.bodies.length
  ·rw[if_pos (by simpa using hb),gE,List.getElem?_map,List.getElem?_range hb];rfl
  ·rw[if_neg (by simpa using hb)]
 ·rw[if_neg hj,gE,List.getElem?_eq_none (by simp;omega)];rfl
def startT(b:Book):St2:=(List.replicate b.lines.length zPair,(List.replicate (b.lines.length+1) tHave.zero).set 0 fId)
theorem leaf_truths{b:Book}(h:OkBook b)(but:Int):leafT b but b.lines.length 0 (startT b)=(truthsR b (butL b but)).map toS:=by
 have e:truthsR b (butL b but)=restT b (butL b but) b.lines.length 0 ⟨[],[firstH b]⟩:=by
  have:=truths_rest b (butL b but) b.lines.length 0;rw[Nat.zero_add]at this;unfold truthsR;rw[this,truthsTo];simp
 rw[e];refine leaf_rest h but b.lines.length 0 (startT b) ⟨[],[firstH b]⟩ (by omega) ⟨by simp[startT],by simp[startT],rfl,?_⟩ ⟨rfl,rfl,fun l hl=>by rw[List.mem_singleton.1 hl];simp[firstH]⟩;simp only[startT,List.replicate_succ,List.set_cons_zero,List.take_succ_cons,List.take_zero,List.map_cons,List.map_nil,fId_eq h]
def yT(b:Book)(t:Truth):V:=yV b.lines.length t.pairs (t.haves.map fnH)
def ysB(b:Book)(but:Int):List V:=(truthsR b (butL b but)).map (yT b)
theorem ysB_eq{b:Book}(h:OkBook b)(but:Int):ysT b but b.lines.length 0 (startT b)=ysB b but:=by
 unfold ysT ysB;rw[leaf_truths h but,List.map_map];rfl
end
noncomputable section
inductive P110
 |e
 |l0 (x0_23:Int) (a0_3:List (Nat->Int))
inductive R110
 |r0 (r0:List V)
def T110(X:Ext)(x:Look)(but:Int)(nx:Int->St3->St3):P110->Tr P110 R110
 |.e=>let c1:=(x.b.lines.length:Int);let c2:=((c1+(1:Int))).toNat;let c3:=([tLine.lst x.b.lines,(tlist tPair).lst x.pairs]:List V);let c4:=(c1).toNat;let c5:=([iI 0,iI 0,iI 0,iI 0,iI 0]:List V);let c6:=List.replicate c2 tHave.zero;(.wait 3 (.over (regionOf Tryz.f110 1) ⟨[.yld 0,rR (lk x),rR (iI but),.ref 1 0 0,uU,uU,uU,uU,uU,uU,uU,uU,uU,uU,uU,uU,uU,uU,uU,uU,uU,uU,uU,uU,uU,uU,uU,uU,uU,uU,uU,uU,uU,uU,uU,uU],[.ext X ([]),.cells [.yld 0]],[]⟩ .normal ⟨[.yld 0,rR (lk x),rR (iI but),.ref 1 0 0,.ref 4 0 0,uU,uU,lk x,lk x,lk x,.cref 2 fun q=>c3.getD q uU,tLine.lst x.b.lines,iI c1,.row 2 c4,lk x,lk x,lk x,.cref 2 fun q=>c3.getD q uU,tLine.lst x.b.lines,iI c1,iI (c1+(1:Int)),.row 3 c2,.agg [.row 2 c4,.row 3 c2],uU,uU,uU,uU,uU,uU,uU,uU,uU,uU,uU,uU,uU],[.ext X ([]),.cells [.yld 0],.rows 95 2 c4 (fun _ j=>([iI 0,iI 0]:List V).getD j uU),.rows 128 5 c2 (fun _ j=>c5.getD j uU),.cells [.row 2 c4,.row 3 c2]],[]⟩ true (.telb 2 2 c4 (fun _ j=>([iI 0,iI 0]:List V).getD j uU) (rowsOf tPair (List.replicate c4 tPair.zero)) (.telb 3 5 c2 (fun _ j=>c5.getD j uU) (rowsOf tHave c6) (.go (.l0 0 c6))))))
 |.l0 x0_23 a0_3=>let c1:=a0_3.getD ((0:Int)).toNat tHave.zero;let c2:=((x.b.lines.length:Int)+(1:Int));let c3:=(decide (0<=(0:Int))&&decide ((0:Int)<((c2.toNat):Int)))&&decide (c2.toNat<=c2.toNat);let c5:=x0_23+(1:Int);let c6:=((0:Int)).toNat;let c7:=((0:Int)).toNat<c2.toNat;let c8:=((x.b.lines.length:Int)).toNat;let c4:=List.replicate c8 tPair.zero;let c9:List V:=[fG 111 [rR (lk x),.ref 1 0 0,.ref 4 0 0,rR (iI but),.ref 5 0 0]];let c10:=rowsOf tHave a0_3;let c11:=nx 0 ((c4,a0_3),[]);let c12:=a0_3.set c6 (fn5 0 (c1 1) (c1 2) (c1 3) (c1 4));let c13:=a0_3.set c6 (fn5 (c1 0) 1 (c1 2) (c1 3) (c1 4));let c14:=a0_3.set c6 (fn5 (c1 0) (c1 1) 2 (c1 3) (c1 4));let c15:=a0_3.set c6 (fn5 (c1 0) (c1 1) (c1 2) 3 (c1 4));let c16:=a0_3.set c6 (fn5 (c1 0) (c1 1) (c1 2) (c1 3) 4);let c17:=([iI 4]:List V);let c18:=([iI 3]:List V);let c19:=([iI 2]:List V);let c20:=([iI 1]:List V);let c21:=([iI 0]:List V);let c22:=inR .i64 c5;let c23:List V:=[.row 2 c8,.row 3 (c2.toNat)];(.br (decide (x0_23<(5:Int))) (.wait 5 (.cas (decide (x0_23=0)) (.vle 5 (iI x0_23) (iI 0) (.need c3 (.need ((decide (0<=(0:Int))&&decide ((0:Int)<(5:Int)))&&true) (.need ((decide c7&&decide (0+c21.length<=5))&&underL 0 c21) (.telb 3 5 (c2.toNat) (fun r' j=>if r'=((0:Int)).toNat/\0<=j/\j<0+c21.length then c21.getD (j-0) uU else c10 r' j) (rowsOf tHave c12) (.need c22 (.go (.l0 c5 c12)))))))) (.cas (decide (x0_23=1)) (.vle 5 (iI x0_23) (iI 1) (.need c3 (.need ((decide (0<=(1:Int))&&decide ((1:Int)<(5:Int)))&&true) (.need ((decide c7&&decide (1+c20.length<=5))&&underL 0 c20) (.telb 3 5 (c2.toNat) (fun r' j=>if r'=((0:Int)).toNat/\1<=j/\j<1+c20.length then c20.getD (j-1) uU else c10 r' j) (rowsOf tHave c13) (.need c22 (.go (.l0 c5 c13)))))))) (.cas (decide (x0_23=2)) (.vle 5 (iI x0_23) (iI 2) (.need c3 (.need ((decide (0<=(2:Int))&&decide ((2:Int)<(5:Int)))&&true) (.need ((decide c7&&decide (2+c19.length<=5))&&underL 0 c19) (.telb 3 5 (c2.toNat) (fun r' j=>if r'=((0:Int)).toNat/\2<=j/\j<2+c19.length then c19.getD (j-2) uU else c10 r' j) (rowsOf tHave c14) (.need c22 (.go (.l0 c5 c14)))))))) (.cas (decide (x0_23=3)) (.vle 5 (iI x0_23) (iI 3) (.need c3 (.need ((decide (0<=(3:Int))&&decide ((3:Int)<(5:Int)))&&true) (.need ((decide c7&&decide (3+c18.length<=5))&&underL 0 c18) (.telb 3 5 (c2.toNat) (fun r' j=>if r'=((0:Int)).toNat/\3<=j/\j<3+c18.length then c18.getD (j-3) uU else c10 r' j) (rowsOf tHave c15) (.need c22 (.go (.l0 c5 c15)))))))) (.cas (decide (x0_23=4)) (.vle 5 (iI x0_23) (iI 4) (.need c3 (.need ((decide (0<=(4:Int))&&decide ((4:Int)<(5:Int)))&&true) (.need ((decide c7&&decide (4+c17.length<=5))&&underL 0 c17) (.telb 3 5 (c2.toNat) (fun r' j=>if r'=((0:Int)).toNat/\4<=j/\j<4+c17.length then c17.getD (j-4) uU else c10 r' j) (rowsOf tHave c16) (.need c22 (.go (.l0 c5 c16)))))))) .never)))))) (.hcall 111 [iI 0,rR (lk x),.ref 1 0 0,.ref 4 0 0,rR (iI but),.ref 5 0 0] (.bool (X.go c11.2)) [.ext X ([]),.cells [.yld 0],.rows 95 2 c8 (rowsOf tPair c4),.rows 128 5 (c2.toNat) c10,.cells c23,.cells c9] [.ext X (c11.2),.cells [.yld 0],.rows 95 2 c8 (rowsOf tPair (c11.1.1)),.rows 128 5 (c2.toNat) (rowsOf tHave (c11.1.2)),.cells c23,.cells c9] true (.out (.r0 (c11.2)))))
noncomputable def g110(X:Ext)(x:Look)(but:Int)(nx:Int->St3->St3):P110->List Item × St
 |.e=>([.code (Tryz.f110.body.getD .skip)],⟨[.yld 0,rR (lk x),rR (iI but)]++List.replicate 33 uU,[.ext X ([])],[]⟩)
 |.l0 x0_23 a0_3=>(cutOf Tryz.f110 0,⟨mk 36 [(1,rR (lk x)),(2,rR (iI but)),(3,.ref 1 0 0),(4,.ref 4 0 0),(23,iI x0_23)],[.ext X ([]),.cells [.yld 0],.rows 95 2 (((x.b.lines.length:Int)).toNat) (rowsOf tPair (List.replicate (((x.b.lines.length:Int)).toNat) tPair.zero)),.rows 128 5 ((((x.b.lines.length:Int)+(1:Int))).toNat) (rowsOf tHave a0_3),.cells [.row 2 (((x.b.lines.length:Int)).toNat),.row 3 ((((x.b.lines.length:Int)+(1:Int))).toNat)]],[]⟩)
def n110(X:Ext)(x:Look)(but:Int)(nx:Int->St3->St3):R110->Exit × St
 |.r0 r0=>(.normal,⟨mk 36 [],[.ext X r0],[]⟩)
theorem s110(X:Ext)(x:Look)(but:Int)(nx:Int->St3->St3):Sm 1 (g110 X x but nx) (T110 X x but nx) (n110 X x but nx)
 |.e=>⟨400,by kernel_rfl⟩
 |.l0 _ _=>⟨400,by kernel_rfl⟩
def hh110(X:Ext)(x:Look)(but:Int)(nx:Int->St3->St3):R110->List Blk
 |.r0 r0=>[.ext X r0]
def v110(X:Ext)(x:Look)(but:Int)(nx:Int->St3->St3):R110->V
 |.r0 r0=>.tuple []
theorem q110(X:Ext)(x:Look)(but:Int)(nx:Int->St3->St3):∀r,((n110 X x but nx r).1=.normal\/(n110 X x but nx r).1=.ret)/\(n110 X x but nx r).2.d=[]/\(n110 X x but nx r).2.h=hh110 X x but nx r/\resultV Tryz.prog Tryz.f110 (n110 X x but nx r).2=some (v110 X x but nx r)
 |.r0 r0=>⟨.inl rfl,rfl,rfl,by kernel_rfl⟩
theorem w110(X:Ext)(x:Look)(but:Int)(nx:Int->St3->St3){V0:V}{h':List Blk}(h:WP Tryz.prog ⟨none,1⟩ (T110 X x but nx) (Ends' fun r=>v110 X x but nx r=V0/\hh110 X x but nx r=h') .e):HCalls Tryz.prog 110 [.yld 0,rR (lk x),rR (iI but)] V0 [.ext X ([])] h':=
 HCalls.wp mx Tryz.func110 (by kernel_rfl) (by kernel_rfl) (T110 X x but nx) (g110 X x but nx) (n110 X x but nx) .e rfl (s110 X x but nx) h fun r hr=>by rw[<-hr.1,<-hr.2];exact q110 X x but nx r
def o110_1:Array Oper:=(regOf 1 (Tryz.f110.body.getD .skip)).getD #[]
@[reducible] def st110_1 (X:Ext) (x:Look) (but:Int) (c:Nat->Bool):St:=⟨[.yld 0,rR (lk x),rR (iI but),.ref 1 0 0,(bif c 16 then .ref 4 0 0 else(uU)),uU,uU,(bif c 0 then lk x else(uU)),(bif c 1 then lk x else(uU)),(bif c 2 then lk x else(uU)),(bif c 3 then .cref 2 fun q=>([tLine.lst x.b.lines,(tlist tPair).lst x.pairs]:List V).getD q uU else(uU)),(bif c 4 then tLine.lst x.b.lines else(uU)),(bif c 5 then iI (x.b.lines.length:Int)else(uU)),(bif c 6 then .row 2 (((x.b.lines.length:Int)).toNat)else(uU)),(bif c 7 then lk x else(uU)),(bif c 8 then lk x else(uU)),(bif c 9 then lk x else(uU)),(bif c 10 then .cref 2 fun q=>([tLine.lst x.b.lines,(tlist tPair).lst x.pairs]:List V).getD q uU else(uU)),(bif c 11 then tLine.lst x.b.lines else(uU)),(bif c 12 then iI (x.b.lines.length:Int)else(uU)),(bif c 13 then iI ((x.b.lines.length:Int)+(1:Int))else(uU)),(bif c 14 then .row 3 ((((x.b.lines.length:Int)+(1:Int))).toNat)else(uU)),(bif c 15 then .agg [.row 2 (((x.b.lines.length:Int)).toNat),.row 3 ((((x.b.lines.length:Int)+(1:Int))).toNat)]else(uU)),uU,uU,uU,uU,uU,uU,uU,uU,uU,uU,uU,uU,uU],[.ext X ([]),.cells [.yld 0],(bif c 6 then .rows 95 2 (((x.b.lines.length:Int)).toNat) (fun _ j=>([iI 0,iI 0]:List V).getD j uU)else(.void)),(bif c 14 then .rows 128 5 ((((x.b.lines.length:Int)+(1:Int))).toNat) (fun _ j=>([iI 0,iI 0,iI 0,iI 0,iI 0]:List V).getD j uU)else(.void)),(bif c 16 then .cells [.nils,.nils]else(.void))],[]⟩
def t110_1:Tab:=[([],[7,8,9,10,11,12,13,14,16]),([0],[7,8,9,10,11,12,13,14,16]),([0,1],[7,8,9,10,11,12,13,14,16]),([0,1,2],[7,8,9,10,11,12,13,14,16]),([0,1,2,3],[7,8,9,10,11,12,13,14,16]),([0,1,2,3,4],[7,8,9,10,11,12,13,14,16]),([0,1,2,3,4,5],[7,8,9,10,11,12,13,14,16]),([],[0,1,2,3,4,5,6,16]),([7],[0,1,2,3,4,5,6,16]),([7,8],[0,1,2,3,4,5,6,16]),([7,8,9],[0,1,2,3,4,5,6,16]),([7,8,9,10],[0,1,2,3,4,5,6,16]),([7,8,9,10,11],[0,1,2,3,4,5,6,16]),([7,8,9,10,11,12],[0,1,2,3,4,5,6,16]),([7,8,9,10,11,12,13],[0,1,2,3,4,5,6,16]),([0,1,2,3,4,5,6,7,8,9,10,11,12,13,14],[16]),([],[0,1,2,3,4,5,6,7,8,9,10,11,12,13,14,15])]
theorem ov110_1(X:Ext)(x:Look)(but:Int)(h1:inR .i64 ((x.b.lines.length:Int)+(1:Int))=true)(h2:x.b.lines.length<=8):AWP Tryz.prog ⟨none,1⟩ (regionOf Tryz.f110 1) ⟨[.yld 0,rR (lk x),rR (iI but),.ref 1 0 0,uU,uU,uU,uU,uU,uU,uU,uU,uU,uU,uU,uU,uU,uU,uU,uU,uU,uU,uU,uU,uU,uU,uU,uU,uU,uU,uU,uU,uU,uU,uU,uU],[.ext X ([]),.cells [.yld 0]],[]⟩ (fun e T=>e=.normal/\T=⟨[.yld 0,rR (lk x),rR (iI but),.ref 1 0 0,.ref 4 0 0,uU,uU,lk x,lk x,lk x,.cref 2 fun q=>([tLine.lst x.b.lines,(tlist tPair).lst x.pairs]:List V).getD q uU,tLine.lst x.b.lines,iI (x.b.lines.length:Int),.row 2 (((x.b.lines.length:Int)).toNat),lk x,lk x,lk x,.cref 2 fun q=>([tLine.lst x.b.lines,(tlist tPair).lst x.pairs]:List V).getD q uU,tLine.lst x.b.lines,iI (x.b.lines.length:Int),iI ((x.b.lines.length:Int)+(1:Int)),.row 3 ((((x.b.lines.length:Int)+(1:Int))).toNat),.agg [.row 2 (((x.b.lines.length:Int)).toNat),.row 3 ((((x.b.lines.length:Int)+(1:Int))).toNat)],uU,uU,uU,uU,uU,uU,uU,uU,uU,uU,uU,uU,uU],[.ext X ([]),.cells [.yld 0],.rows 95 2 (((x.b.lines.length:Int)).toNat) (fun _ j=>([iI 0,iI 0]:List V).getD j uU),.rows 128 5 ((((x.b.lines.length:Int)+(1:Int))).toNat) (fun _ j=>([iI 0,iI 0,iI 0,iI 0,iI 0]:List V).getD j uU),.cells [.row 2 (((x.b.lines.length:Int)).toNat),.row 3 ((((x.b.lines.length:Int)+(1:Int))).toNat)]],[]⟩):=by
 refine AWP.region_bits (ops:=o110_1) 17 3 t110_1 mx (st110_1 X x but) (fun z_i z_h c=> ?_) ?_
 ·rcases show z_i=0\/z_i=1\/z_i=2\/z_i=3\/z_i=4\/z_i=5\/z_i=6\/z_i=7\/z_i=8\/z_i=9\/z_i=10\/z_i=11\/z_i=12\/z_i=13\/z_i=14\/z_i=15\/z_i=16 by omega with rfl|rfl|rfl|rfl|rfl|rfl|rfl|rfl|rfl|rfl|rfl|rfl|rfl|rfl|rfl|rfl|rfl
  ·exact AStep.rd true (lk x) rfl
  ·exact AStep.rd true (lk x) rfl
  ·exact AStep.rd true (lk x) rfl
  ·exact AStep.rd true (.cref 2 fun q=>([tLine.lst x.b.lines,(tlist tPair).lst x.pairs]:List V).getD q uU) rfl
  ·exact AStep.rd true (tLine.lst x.b.lines) rfl
  ·exact AStep.rd true (iI (x.b.lines.length:Int)) rfl
  ·refine AStep.mk 30 95 (.tmp 12) (.tmp 12) ((x.b.lines.length:Int)) 2 2 [iI 0,iI 0] ?_ ?_;all_goals omega
  ·exact AStep.rd true (lk x) rfl
  ·exact AStep.rd true (lk x) rfl
  ·exact AStep.rd true (lk x) rfl
  ·exact AStep.rd true (.cref 2 fun q=>([tLine.lst x.b.lines,(tlist tPair).lst x.pairs]:List V).getD q uU) rfl
  ·exact AStep.rd true (tLine.lst x.b.lines) rfl
  ·exact AStep.rd true (iI (x.b.lines.length:Int)) rfl
  ·refine AStep.rd (inR .i64 ((x.b.lines.length:Int)+(1:Int))) (iI ((x.b.lines.length:Int)+(1:Int))) ?_;first|assumption|rfl|(simp[*];done)|(simp;omega)|(simp only[Bool.and_eq_true,decide_eq_true_eq];omega)
  ·refine AStep.mk 121 128 (.tmp 20) (.tmp 20) (((x.b.lines.length:Int)+(1:Int))) 3 5 [iI 0,iI 0,iI 0,iI 0,iI 0] ?_ ?_;all_goals omega
  ·exact AStep.rd true (.agg [.row 2 (((x.b.lines.length:Int)).toNat),.row 3 ((((x.b.lines.length:Int)+(1:Int))).toNat)]) rfl
  ·exact AStep.al 123 4 [.nils,.nils]
 ·refine AOps.tree (g:=(.done .normal ⟨[.yld 0,rR (lk x),rR (iI but),.ref 1 0 0,.ref 4 0 0,uU,uU,lk x,lk x,lk x,.cref 2 fun q=>([tLine.lst x.b.lines,(tlist tPair).lst x.pairs]:List V).getD q uU,tLine.lst x.b.lines,iI (x.b.lines.length:Int),.row 2 (((x.b.lines.length:Int)).toNat),lk x,lk x,lk x,.cref 2 fun q=>([tLine.lst x.b.lines,(tlist tPair).lst x.pairs]:List V).getD q uU,tLine.lst x.b.lines,iI (x.b.lines.length:Int),iI ((x.b.lines.length:Int)+(1:Int)),.row 3 ((((x.b.lines.length:Int)+(1:Int))).toNat),.agg [.row 2 (((x.b.lines.length:Int)).toNat),.row 3 ((((x.b.lines.length:Int)+(1:Int))).toNat)],uU,uU,uU,uU,uU,uU,uU,uU,uU,uU,uU,uU,uU],[.ext X ([]),.cells [.yld 0],.rows 95 2 (((x.b.lines.length:Int)).toNat) (fun _ j=>([iI 0,iI 0]:List V).getD j uU),.rows 128 5 ((((x.b.lines.length:Int)+(1:Int))).toNat) (fun _ j=>([iI 0,iI 0,iI 0,iI 0,iI 0]:List V).getD j uU),.cells [.row 2 (((x.b.lines.length:Int)).toNat),.row 3 ((((x.b.lines.length:Int)+(1:Int))).toNat)]],[]⟩)) (by kernel_rfl) ?_
  simp only[DT.holds];repeat' (first|exact rfl|refine And.intro ?_ ?_)
  all_goals simp
inductive P75
 |e
inductive R75
 |r0 (r0_c1_0:Int)
def T75(x:Look)(but:Int):P75->Tr P75 R75
 |.e=>(.out (.r0 but))
noncomputable def g75(x:Look)(but:Int):P75->List Item × St
 |.e=>bd Tryz.f75 [lk x,iI but] 4
def n75(x:Look)(but:Int):R75->Exit × St
 |.r0 r0_c1_0=>(.ret,⟨mk 6 [(4,fG 110 [.ref 0 0 0,.ref 1 0 0])],[.cells [lk x],.cells [iI r0_c1_0]],[]⟩)
def v75(x:Look)(but:Int):R75->V
 |.r0 r0_c1_0=>fG 110 [rR (lk x),rR (iI r0_c1_0)]
theorem s75(x:Look)(but:Int):Sm 0 (g75 x but) (T75 x but) (n75 x but)
 |.e=>⟨400,by kernel_rfl⟩
theorem q75(x:Look)(but:Int):∀r,bodyQ Tryz.prog Tryz.f75 (·=v75 x but r) (n75 x but r).1 (n75 x but r).2
 |.r0 r0_c1_0=>⟨.inr rfl,by simp[n75],(fG 110 [.ref 0 0 0,.ref 1 0 0]),(fG 110 [rR (lk x),rR (iI r0_c1_0)]),by kernel_rfl,(.func rfl rfl (by intro j hj;exact absurd hj (by simp)) (by intro j hj;match j,hj with|0,_=>exact .weak (.ref (n:=1) rfl (Nat.le_refl _) (by intro j hj;match j,hj with|0,_=>exact .imm rfl)) (VLe.refl _)|1,_=>exact .weak (.ref (n:=1) rfl (Nat.le_refl _) (by intro j hj;match j,hj with|0,_=>exact .imm rfl)) (VLe.refl _))),rfl⟩
theorem w75(x:Look)(but:Int){post:V->Prop}(h:WP Tryz.prog ⟨none,0⟩ (T75 x but) (Ends' fun r=>post (v75 x but r)) .e):PC 75 [lk x,iI but] post:=
 PCalls.wq Tryz.func75 (s75 x but) (q75 x but) h
theorem tel_setK(l:List (Nat->Int)){n k:Nat}(hk:k<5)(v:Int)(G:Nat->Int)(hn:l.length=n)(hG:∀j,j<5->G j=if j=k then v else(l.getD 0 tHave.zero) j){r j:Nat}(hr:r<n)(hj:j<5):
  VLe (if r=0/\k<=j/\j<k+([V.int .i64 v]:List V).length then([V.int .i64 v]:List V).getD (j-k) uU else rowsOf tHave l r j) (rowsOf tHave (l.set 0 G) r j):=by
 have hc:∀(F:Nat->Int) (j:Nat),j<5->(tHave.cells F).getD j uU=V.int .i64 (F j):=fun F j hj=>by
  rcases show j=0\/j=1\/j=2\/j=3\/j=4 by omega with rfl|rfl|rfl|rfl|rfl<;>rfl
 unfold rowsOf;rw[hc _ j hj,hc _ j hj];by_cases h0:r=0
 ·subst h0;rw[gE (l:=l.set 0 G),List.getElem?_set_self (by omega)];show VLe _ (V.int .i64 (G j));rw[hG j hj];by_cases hjk:j=k
  ·subst hjk;rw[if_pos ⟨rfl,Nat.le_refl _,by simp⟩,if_pos rfl,Nat.sub_self];exact VLe.refl _
  ·rw[if_neg (by simp;omega),if_neg hjk];exact VLe.refl _
 ·rw[if_neg (by simp[h0]),gE (l:=l.set 0 G),sN (Ne.symm h0),<-List.getD_eq_getElem?_getD];exact VLe.refl _
def hK(b:Book)(F:Nat->Int):List (Nat->Int):=(List.replicate (b.lines.length+1) tHave.zero).set 0 F
theorem hK_set(b:Book)(F G:Nat->Int):(hK b F).set 0 G=hK b G:=by unfold hK;rw[List.set_set]
theorem hK_get(b:Book)(F:Nat->Int):(hK b F).getD 0 tHave.zero=F:=by unfold hK;rw[gE,List.getElem?_set_self (by simp)];rfl
theorem hK_len(b:Book)(F:Nat->Int):(hK b F).length=b.lines.length+1:=by simp[hK]
theorem hK_zero(b:Book):List.replicate (b.lines.length+1) tHave.zero=hK b (fun _=>0):=by
 unfold hK;rw[List.replicate_succ,List.set_cons_zero];rfl
theorem tel_repE{τ:Type}(E:Ty τ)(x:τ){n:Nat}{cs:List V}(hc:cs=E.cells x){r j:Nat}(hr:r<n):VLe (cs.getD j uU) (rowsOf E (List.replicate n x) r j):=by
 unfold rowsOf;rw[hc,gE (l:=List.replicate n x),List.getElem?_replicate,if_pos hr];exact VLe.refl _
theorem tel_repP{n r j:Nat}(hr:r<n):VLe (([iI 0,iI 0]:List V).getD j uU) (rowsOf tPair (List.replicate n zPair) r j):=tel_repE tPair zPair rfl hr
theorem tel_repH(b:Book){r j:Nat}(hr:r<b.lines.length+1):VLe (([iI 0,iI 0,iI 0,iI 0,iI 0]:List V).getD j uU) (rowsOf tHave (hK b fun _=>0) r j):=by
 rw[<-hK_zero];exact tel_repE tHave tHave.zero rfl hr
theorem f5_0(a b c d e:Int):fn5 a b c d e 0=a:=rfl
theorem f5_1(a b c d e:Int):fn5 a b c d e 1=b:=rfl
theorem f5_2(a b c d e:Int):fn5 a b c d e 2=c:=rfl
theorem f5_3(a b c d e:Int):fn5 a b c d e 3=d:=rfl
theorem f5_4(a b c d e:Int):fn5 a b c d e 4=e:=rfl
theorem c110(b:Book)(h:OkBook b)(but:Int):IterL Tryz.prog 110 [rR (lk (lookOf b)),rR (iI but)] (ysB b but):=by
 intro X hX hY hg;refine⟨.tuple [],?_⟩;have hnl:=h.nl;have hsp:=walk_spec X b but b.lines.length 0 (startT b,[]) hg (by simp[startT]) (by simp[startT]);have k111:=c111 X hY b h but b.lines.length 0 (startT b,[]) (by omega) hg (by simp[startT]) (by simp[startT]) (by rw[List.nil_append,ysB_eq h,hX];exact List.prefix_refl _);rw[ysB_eq h]at hsp;have hnx:nxT X b but 0 ((List.replicate b.lines.length zPair,hK b (fn5 0 1 2 3 4)),[])=walkT X b but b.lines.length 0 (startT b,[]):=rfl
 rw[show X.go (walkT X b but b.lines.length 0 (startT b,[])).2=X.go (nxT X b but 0 ((List.replicate b.lines.length zPair,hK b (fn5 0 1 2 3 4)),[])).2 by rw[hnx]]at k111;have hn0:((b.lines.length:Int)).toNat=b.lines.length:=by omega
 have hn1:((b.lines.length:Int)+1).toNat=b.lines.length+1:=by omega
 have hn2:(0:Int)<(b.lines.length:Int)+1:=by omega
 have hn3:0<b.lines.length+1:=by omega
 have hr1:inR .i64 ((b.lines.length:Int)+1)=true:=inR64 (by omega) (by omega);have hle:(b.lines.length:Int)<=4294967296:=by omega
 have hle1:(b.lines.length:Int)+1<=4294967296:=by omega
 have hle2:(0:Int)<=(b.lines.length:Int)+1:=by omega
 have hf:∀F:Nat->Int,(hK b F).length=b.lines.length+1:=hK_len b;have i1:inR .i64 ((0:Int)+1)=true:=by decide
 have i2:inR .i64 ((1:Int)+1)=true:=by decide
 have i3:inR .i64 ((2:Int)+1)=true:=by decide
 have i4:inR .i64 ((3:Int)+1)=true:=by decide
 have i5:inR .i64 ((4:Int)+1)=true:=by decide
 obtain⟨Φ,hΦ⟩:∃Φ:P110⊕R110->Prop,Φ=Ends' fun r=>v110 X (lookOf b) but (nxT X b but) r=.tuple []/\hh110 X (lookOf b) but (nxT X b but) r=[.ext X (feed X.go [] (ysB b but))]:=⟨_,rfl⟩
 have hfin:hh110 X (lookOf b) but (nxT X b but) (R110.r0 (nxT X b but 0 ((List.replicate b.lines.length zPair,hK b (fn5 0 1 2 3 4)),[])).snd)=[Blk.ext X (feed X.go [] (ysB b but))]:=by
  rw[hnx];show[Blk.ext X _]=_;rw[hsp.1]
 have h5:WP Tryz.prog ⟨none,1⟩ (T110 X (lookOf b) but (nxT X b but)) Φ (.l0 5 (hK b (fn5 0 1 2 3 4))):=by
  rw[hΦ];refine WP.step ?_;simp only[T110,Go,Ends',v110,Tr.sure,SS,lookOf_b,hn0,hn1,zP0];repeat' with_reducible first|intro _|apply aI
  all_goals first|exact k111|exact hfin
 have h4:WP Tryz.prog ⟨none,1⟩ (T110 X (lookOf b) but (nxT X b but)) Φ (.l0 4 (hK b (fn5 0 1 2 3 0))):=by
  have hv:=fun {r j:Nat} (hr:r<b.lines.length+1) (hj:j<5)=>tel_setK (hK b (fn5 0 1 2 3 0)) (k:=4) (by omega) 4 (fn5 0 1 2 3 4) (hf _) (fun j hj=>by rw[hK_get];rcases show j=0\/j=1\/j=2\/j=3\/j=4 by omega with rfl|rfl|rfl|rfl|rfl<;>rfl) hr hj;rw[hK_set]at hv;refine WP.step ?_;simp only[T110,Go,Ends',v110,Tr.sure,SS,lookOf_b,hn0,hn1,zP0,Int.toNat_zero,hK_set,hK_get,f5_0,f5_1,f5_2,f5_3,f5_4,hn2,hn3,Int.reduceEq,Int.reduceAdd]
  repeat' with_reducible first|intro _|apply aI
  all_goals first|exact(by with_reducible exact h5)|exact(by with_reducible exact VLe.refl _)|exact(by with_reducible exact under1 _)|exact(by with_reducible exact hv (by assumption) (by assumption))|(simp[i5,Go,Ends',v110,-List.getD_eq_getElem?_getD, *];done)|(simp_all [i5,Go,Ends',v110,-List.getD_eq_getElem?_getD];done)
 have h3:WP Tryz.prog ⟨none,1⟩ (T110 X (lookOf b) but (nxT X b but)) Φ (.l0 3 (hK b (fn5 0 1 2 0 0))):=by
  have hv:=fun {r j:Nat} (hr:r<b.lines.length+1) (hj:j<5)=>tel_setK (hK b (fn5 0 1 2 0 0)) (k:=3) (by omega) 3 (fn5 0 1 2 3 0) (hf _) (fun j hj=>by rw[hK_get];rcases show j=0\/j=1\/j=2\/j=3\/j=4 by omega with rfl|rfl|rfl|rfl|rfl<;>rfl) hr hj;rw[hK_set]at hv;refine WP.step ?_;simp only[T110,Go,Ends',v110,Tr.sure,SS,lookOf_b,hn0,hn1,zP0,Int.toNat_zero,hK_set,hK_get,f5_0,f5_1,f5_2,f5_3,f5_4,hn2,hn3,Int.reduceEq,Int.reduceAdd]
  repeat' with_reducible first|intro _|apply aI
  all_goals first|exact(by with_reducible exact h4)|exact(by with_reducible exact VLe.refl _)|exact(by with_reducible exact under1 _)|exact(by with_reducible exact hv (by assumption) (by assumption))|(simp[i4,Go,Ends',v110,-List.getD_eq_getElem?_getD, *];done)|(simp_all [i4,Go,Ends',v110,-List.getD_eq_getElem?_getD];done)
 have h2:WP Tryz.prog ⟨none,1⟩ (T110 X (lookOf b) but (nxT X b but)) Φ (.l0 2 (hK b (fn5 0 1 0 0 0))):=by
  have hv:=fun {r j:Nat} (hr:r<b.lines.length+1) (hj:j<5)=>tel_setK (hK b (fn5 0 1 0 0 0)) (k:=2) (by omega) 2 (fn5 0 1 2 0 0) (hf _) (fun j hj=>by rw[hK_get];rcases show j=0\/j=1\/j=2\/j=3\/j=4 by omega with rfl|rfl|rfl|rfl|rfl<;>rfl) hr hj;rw[hK_set]at hv;refine WP.step ?_;simp only[T110,Go,Ends',v110,Tr.sure,SS,lookOf_b,hn0,hn1,zP0,Int.toNat_zero,hK_set,hK_get,f5_0,f5_1,f5_2,f5_3,f5_4,hn2,hn3,Int.reduceEq,Int.reduceAdd]
  repeat' with_reducible first|intro _|apply aI
  all_goals first|exact(by with_reducible exact h3)|exact(by with_reducible exact VLe.refl _)|exact(by with_reducible exact under1 _)|exact(by with_reducible exact hv (by assumption) (by assumption))|(simp[i3,Go,Ends',v110,-List.getD_eq_getElem?_getD, *];done)|(simp_all [i3,Go,Ends',v110,-List.getD_eq_getElem?_getD];done)
 have h1:WP Tryz.prog ⟨none,1⟩ (T110 X (lookOf b) but (nxT X b but)) Φ (.l0 1 (hK b (fn5 0 0 0 0 0))):=by
  have hv:=fun {r j:Nat} (hr:r<b.lines.length+1) (hj:j<5)=>tel_setK (hK b (fn5 0 0 0 0 0)) (k:=1) (by omega) 1 (fn5 0 1 0 0 0) (hf _) (fun j hj=>by rw[hK_get];rcases show j=0\/j=1\/j=2\/j=3\/j=4 by omega with rfl|rfl|rfl|rfl|rfl<;>rfl) hr hj;rw[hK_set]at hv;refine WP.step ?_;simp only[T110,Go,Ends',v110,Tr.sure,SS,lookOf_b,hn0,hn1,zP0,Int.toNat_zero,hK_set,hK_get,f5_0,f5_1,f5_2,f5_3,f5_4,hn2,hn3,Int.reduceEq,Int.reduceAdd]
  repeat' with_reducible first|intro _|apply aI
  all_goals first|exact(by with_reducible exact h2)|exact(by with_reducible exact VLe.refl _)|exact(by with_reducible exact under1 _)|exact(by with_reducible exact hv (by assumption) (by assumption))|(simp[i2,Go,Ends',v110,-List.getD_eq_getElem?_getD, *];done)|(simp_all [i2,Go,Ends',v110,-List.getD_eq_getElem?_getD];done)
 have h0:WP Tryz.prog ⟨none,1⟩ (T110 X (lookOf b) but (nxT X b but)) Φ (.l0 0 (hK b (fun _=>0))):=by
  have hv:=fun {r j:Nat} (hr:r<b.lines.length+1) (hj:j<5)=>tel_setK (hK b (fun _=>0)) (k:=0) (by omega) 0 (fn5 0 0 0 0 0) (hf _) (fun j hj=>by rw[hK_get];rcases show j=0\/j=1\/j=2\/j=3\/j=4 by omega with rfl|rfl|rfl|rfl|rfl<;>rfl) hr hj;rw[hK_set]at hv;refine WP.step ?_;simp only[T110,Go,Ends',v110,Tr.sure,SS,lookOf_b,hn0,hn1,zP0,Int.toNat_zero,hK_set,hK_get,f5_0,f5_1,f5_2,f5_3,f5_4,hn2,hn3,Int.reduceEq,Int.reduceAdd]
  repeat' with_reducible first|intro _|apply aI
  all_goals first|exact(by with_reducible exact h1)|exact(by with_reducible exact VLe.refl _)|exact(by with_reducible exact under1 _)|exact(by with_reducible exact hv (by assumption) (by assumption))|(simp[i1,Go,Ends',v110,-List.getD_eq_getElem?_getD, *];done)|(simp_all [i1,Go,Ends',v110,-List.getD_eq_getElem?_getD];done)
 rw[hΦ]at h0;have kov:=ov110_1 X (lookOf b) but hr1 hnl;simp only[lookOf_b,hn0,hn1]at kov;refine w110 X (lookOf b) but (nxT X b but) (WP.step ?_);simp only[T110,Go,Ends',v110,Tr.sure,SS,lookOf_b,hn0,hn1,zP0,hK_zero];repeat' with_reducible first|intro _|apply aI
 all_goals first|exact(by with_reducible exact kov)|exact(by with_reducible exact tel_repP (by assumption))|exact(by with_reducible exact tel_repH b (by assumption))|(simp_all [Go,Ends',v110,-List.getD_eq_getElem?_getD];done)
theorem c75(x:Look)(but:Int):PC 75 [lk x,iI but] (·=fG 110 [rR (lk x),rR (iI but)]):=by
 refine w75 x but (WP.step ?_);simp only[T75,Go,Ends',v75,Tr.sure,SS];repeat' with_reducible first|intro _|apply aI
end
noncomputable section
inductive P90
 |e
inductive R90
 |r0 (r0_0:Bool)
def T90(x:Look)(but:Int):P90->Tr P90 R90
 |.e=>let c1:List V:=[uU,uU,uU,uU,.ref 0 0 0,uU,uU,fG 110 [rR (lk x),rR (iI but)],uU];(.call 75 [lk x,iI but] (fG 110 [rR (lk x),rR (iI but)]) true true (.wait 1 (.drop ⟨[uU,uU,uU,uU,.nil,uU,uU,.nil,uU],[.void],[]⟩ (.cas (decide (0<((truthsR x.b (butL x.b but)).length))) (.over (rangeOf Tryz.f90) ⟨c1,[.cells [.bool false]],[]⟩ .ret ⟨c1,[.cells [.bool true],.obj (.deferred (some []))],[1]⟩ true (.out (.r0 true))) (.over (rangeOf Tryz.f90) ⟨c1,[.cells [.bool false]],[]⟩ .normal ⟨c1,[.cells [.bool false],.obj (.deferred (some []))],[1]⟩ true (.out (.r0 false)))))))
noncomputable def g90(x:Look)(but:Int):P90->List Item × St
 |.e=>bd Tryz.f90 [lk x,iI but] 7
def n90:R90->Exit × St
 |.r0 r0_0=>(.ret,⟨mk 9 [(4,.ref 0 0 0)],[.cells [.bool r0_0],.obj (.deferred (some []))],[1]⟩)
def v90:R90->V
 |.r0 r0_0=>.bool r0_0
theorem s90(x:Look)(but:Int):Sm 0 (g90 x but) (T90 x but) (n90)
 |.e=>⟨400,by kernel_rfl⟩
theorem q90:∀r,bodyQ Tryz.prog Tryz.f90 (·=v90 r) (n90 r).1 (n90 r).2
 |.r0 r0_0=>⟨.inr rfl,by simp[n90],(.bool r0_0),(.bool r0_0),by kernel_rfl,(.imm rfl),rfl⟩
theorem w90(x:Look)(but:Int){post:V->Prop}(h:WQ (T90 x but) v90 post .e):PC 90 [lk x,iI but] post:=
 PCalls.wq Tryz.func90 (s90 x but) q90 h
inductive P77
 |e
 |l0 (x0_5:Int)
inductive R77
 |r0 (r0:Int)
def T77(x:Look)(day:Int):P77->Tr P77 R77
 |.e=>(.go (.l0 0))
 |.l0 x0_5=>let c1:=x0_5<(x.b.lines.length:Int);(.br (decide c1) (.need (decide (0<=x0_5)&&decide c1) (.br (decide ((x.b.lines.getD (x0_5).toNat tLine.zero).day<=day)) (.need (inR .i64 (x0_5+(1:Int))) (.go (.l0 (x0_5+(1:Int))))) (.out (.r0 x0_5)))) (.lit false (.out (.r0 x0_5))))
noncomputable def g77(x:Look)(day:Int):P77->List Item × St
 |.e=>bd Tryz.f77 [lk x,iI day] 28
 |.l0 x0_5=>(cutOf Tryz.f77 0,⟨mk 30 [(0,lk x),(1,iI day),(5,iI x0_5)],[],[]⟩)
def n77:R77->Exit × St
 |.r0 r0=>(.ret,⟨mk 30 [(4,iI r0)],[],[]⟩)
def v77:R77->V
 |.r0 r0=>iI r0
theorem s77(x:Look)(day:Int):Sm 0 (g77 x day) (T77 x day) (n77)
 |.e=>⟨400,by kernel_rfl⟩
 |.l0 _=>⟨400,by kernel_rfl⟩
theorem q77:∀r,bodyQ Tryz.prog Tryz.f77 (·=v77 r) (n77 r).1 (n77 r).2
 |.r0 r0=>bq (iI r0) (by kernel_rfl)
theorem w77(x:Look)(day:Int){post:V->Prop}(h:WQ (T77 x day) v77 post .e):PC 77 [lk x,iI day] post:=
 PCalls.wq Tryz.func77 (s77 x day) q77 h
def asgOf:Code->Code
 |.rangeFunc _ _ a _=>a
 |_=>.skip
def bdyOf:Code->Code
 |.rangeFunc _ _ _ b=>b
 |_=>.skip
theorem AWP.forget{P:Program}{ro:Env}{c:Code}{S:St}{t:List V}{Q:Exit->St->Prop}(hl:t.length=S.t.length)(ht:∀j,VLe (S.t.getD j uU) (t.getD j uU))(h:AWP P ro c ⟨t,S.h,S.d⟩ Q):AWP P ro c S Q:=
 fun β G K a w r=>h β G K a w ⟨r.h,by rw[r.size];exact hl.symm,fun j=>ht j _ _ _ (r.tmp j),r.marks,r.mark⟩
theorem forget_set(t:List V)(i:Nat)(j:Nat):VLe (t.getD j uU) ((t.set i uU).getD j uU):=by
 by_cases e:i=j
 ·subst e;rcases Nat.lt_or_ge i t.length with q|q
  ·rw[gE (l:=t.set i V.undef),List.getElem?_set_self q];exact VLe.undef _
  ·rw[gE (l:=t.set i V.undef),List.getElem?_eq_none (by simpa using q)];exact VLe.undef _
 ·rw[gE (l:=t.set i V.undef),sN e,<-List.getD_eq_getElem?_getD];exact VLe.refl _
theorem freeAll{h:List Blk}(hb:∀b∈h,BlkFree b)(i:Nat)(k:Blk)(hk:h[i]? =some k):BlkFree k:=hb k (List.mem_of_getElem? hk)
inductive P90b
 |e
inductive R90b
 |r0 (r0:Bool)
def T90b:P90b->Tr P90b R90b
 |.e=>(.out (.r0 true))
noncomputable def g90b:P90b->List Item × St
 |.e=>([.code (bdyOf (rangeOf Tryz.f90))],⟨[uU,uU,uU,uU,.ref 0 0 0,uU,uU,uU,uU],[.cells [.bool false]],[]⟩)
def n90b:R90b->Exit × St
 |.r0 r0=>(.ret,⟨mk 9 [],[.cells [.bool r0]],[]⟩)
theorem s90b:Sm 1 (g90b) (T90b) (n90b)
 |.e=>⟨400,by kernel_rfl⟩
theorem butL_zero(b:Book):butL b 0=[]:=by
 have h:∀i,bitB 0 i=false:=fun i=>by
  unfold bitB;rw[Int.zero_fdiv];decide
 unfold butL;rw[List.filter_eq_nil_iff.2 fun i _=>by rw[h i];simp];rfl
abbrev trF(b:Book)(but:Int):V:=fG 110 [rR (lk (lookOf b)),rR (iI but)]
abbrev t90(b:Book)(but:Int):List V:=[uU,uU,uU,uU,.ref 0 0 0,uU,uU,trF b but,uU]
theorem body90(l:Nat):AWP Tryz.prog ⟨some l,1⟩ (bdyOf (rangeOf Tryz.f90)) (g90b .e).2 fun e S2=>e=.ret/\S2.h=[.cells [.bool true]]:=by
 refine AWP.wp mx T90b g90b n90b .e rfl s90b (post:=fun r=>(n90b r).1=.ret/\(n90b r).2.h=[.cells [.bool true]]) ?_ (fun r hr=>hr);refine WP.step ?_;simp only[T90b,Go,Ends',Tr.sure,SS];repeat' with_reducible first|intro _|apply aI
 all_goals exact rfl
theorem range90(b:Book)(h:OkBook b)(but:Int):
  AWP Tryz.prog ⟨none,0⟩ (rangeOf Tryz.f90) ⟨t90 b but,[.cells [.bool false]],[]⟩ (fun e T=>(ysB b but=[]->e=.normal/\T=⟨t90 b but,[.cells [.bool false],.obj (.deferred (some []))],[1]⟩)/\
   (ysB b but≠ []->e=.ret/\T=⟨t90 b but,[.cells [.bool true],.obj (.deferred (some []))],[1]⟩)):=by
 have e:rangeOf Tryz.f90=.rangeFunc (.tmp 7) #[8] (asgOf (rangeOf Tryz.f90)) (bdyOf (rangeOf Tryz.f90)):=by kernel_rfl
 rw[e]
 refine AWP.rangeV1 (fs:=[]) (T:=t90 b but) (H1:=[.cells [.bool true]]) (jx:=.ret) (jc:=.ret) (f:=110) (caps:=[rR (lk (lookOf b)),rR (iI but)])
  rfl rfl (fun i hi=>by simp at hi) rfl (fun j=>.inl rfl) rfl rfl (PCalls.enters Tryz.func110 (c:=Tryz.f110.body.getD .skip) (by kernel_rfl) (by kernel_rfl)) (c110 b h but) rfl rfl rfl rfl (fun l us hu=> ?_) (fun i k hi=> ?_) (fun i k hi=> ?_)
 ·obtain⟨t,ht,hy⟩:∃t,(truthsR b (butL b but))[0]? =some t/\yT b t=.tuple us:=by
   unfold ysB at hu;rw[List.getElem?_map]at hu
   cases hf:(truthsR b (butL b but))[0]? with
   |none=>rw[hf]at hu;cases hu
   |some f=>rw[hf]at hu;exact⟨f,rfl,Option.some.inj hu⟩
  obtain rfl:us=[.agg [.list 2 b.lines.length (rowsOf tPair t.pairs),.list 5 (b.lines.length+1) (rowsOf tHave (t.haves.map fnH))]]:=by unfold yT yV at hy;cases hy;rfl
  refine⟨rfl,?_⟩;have ea:asgOf (rangeOf Tryz.f90)=.skip:=by kernel_rfl
  rw[ea];refine AWP.skip ⟨rfl,rfl,?_⟩;refine AWP.forget (t:=(setPs [8] [.agg [.list 2 b.lines.length (rowsOf tPair t.pairs),.list 5 (b.lines.length+1) (rowsOf tHave (t.haves.map fnH))]] (t90 b but)).set 7 uU) (by simp) (forget_set _ 7) ?_;refine AWP.forget (t:=((setPs [8] [.agg [.list 2 b.lines.length (rowsOf tPair t.pairs),.list 5 (b.lines.length+1) (rowsOf tHave (t.haves.map fnH))]] (t90 b but)).set 7 uU).set 8 uU) (by simp) (forget_set _ 8) ?_
  exact body90 l
 ·exact freeAll (fun b hb=>by obtain rfl:=List.mem_singleton.1 hb;rfl) i k hi
 ·exact freeAll (fun b hb=>by obtain rfl:=List.mem_singleton.1 hb;rfl) i k hi
theorem c90(b:Book)(h:OkBook b)(but:Int):PC 90 [lk (lookOf b),iI but] (·=.bool (decide (0<(truthsR b (butL b but)).length))):=by
 have k75:=c75 (lookOf b) but;have hr:=range90 b h but;have hb:(lookOf b).b=b:=rfl;have hys:ysB b but=[]↔(truthsR b (butL b but)).length=0:=by unfold ysB;rw[List.map_eq_nil_iff,List.length_eq_zero_iff]
 by_cases h0:0<(truthsR b (butL b but)).length
 ·have hne:ysB b but≠ []:=fun q=>by have:=hys.1 q;omega
  have hr2:=hr.mono fun e T q=>q.2 hne;refine w90 (lookOf b) but (WP.step ?_);simp only[T90,Go,Ends',v90,Tr.sure,SS,hb,h0];repeat' with_reducible first|intro _|apply aI
  all_goals first|exact k75|exact(by with_reducible exact hr2)|(simp[h0,Go,Ends',v90,-List.getD_eq_getElem?_getD, *];done)
 ·have hne:ysB b but=[]:=hys.2 (by omega);have hr2:=hr.mono fun e T q=>q.1 hne;refine w90 (lookOf b) but (WP.step ?_);simp only[T90,Go,Ends',v90,Tr.sure,SS,hb,h0];repeat' with_reducible first|intro _|apply aI
  all_goals first|exact k75|exact(by with_reducible exact hr2)|(simp[h0,Go,Ends',v90,-List.getD_eq_getElem?_getD, *];done)
theorem days_mono{b:Book}(h:OkBook b):∀(k i:Nat),i+k<b.lines.length->(b.lines.getD i zLine).day<=(b.lines.getD (i+k) zLine).day
 |0,i,_=>Int.le_refl _
 |k+1,i,hk=>by
  have h1:=days_mono h k i (by omega);have h2:=(line_iff.1 (h.lineE (i+(k+1)) hk)).2.1 (by omega);rw[show i+(k+1)-1=i+k by omega]at h2;omega
theorem lineN_eq{b:Book}(h:OkBook b){day:Int}{n:Nat}(hn:n<=b.lines.length)(h1:∀i,i<n->(b.lines.getD i zLine).day<=day)(h2:n<b.lines.length->day<(b.lines.getD n zLine).day):lineN b day=(n:Int):=by
 have k1:∀m,m<=n->natF (fun i n=>if(b.lines.getD i zLine).day<=day then(i:Int)+1 else n) 0 m=(m:Int):=by
  intro m
  induction m with
  |zero=>intro _;rfl
  |succ m ih=>
   intro hm;show(if(b.lines.getD m zLine).day<=day then(m:Int)+1 else _)=_;rw[if_pos (h1 m (by omega))];omega
 have k2:∀m,n+m<=b.lines.length->natF (fun i n=>if(b.lines.getD i zLine).day<=day then(i:Int)+1 else n) 0 (n+m)=(n:Int):=by
  intro m
  induction m with
  |zero=>intro _;exact k1 n (Nat.le_refl _)
  |succ m ih=>
   intro hm;show(if(b.lines.getD (n+m) zLine).day<=day then((n+m:Nat):Int)+1 else _)=_;have:=days_mono h m n (by omega);have:=h2 (by omega);rw[if_neg (by omega)];exact ih (by omega)
 unfold lineN;have:=k2 (b.lines.length-n) (by omega);rwa[show n+(b.lines.length-n)=b.lines.length by omega]at this
theorem lineN_in(b:Book)(day:Int):0<=lineN b day/\lineN b day<=b.lines.length:=by
 unfold lineN
 have k:∀m,0<=natF (fun i n=>if(b.lines.getD i zLine).day<=day then(i:Int)+1 else n) (0:Int) m/\natF (fun i n=>if(b.lines.getD i zLine).day<=day then(i:Int)+1 else n) (0:Int) m<=m:=by
  intro m
  induction m with
  |zero=>exact⟨Int.le_refl _,Int.le_refl _⟩
  |succ m ih=>
   show 0<=(if(b.lines.getD m zLine).day<=day then(m:Int)+1 else _)/\(if(b.lines.getD m zLine).day<=day then(m:Int)+1 else _)<=((m+1:Nat):Int);split<;>omega
 exact k _
theorem c77(b:Book)(h:OkBook b)(day:Int):PC 77 [lk (lookOf b),iI day] (·=iI (lineN b day)):=by
 have hnl:=h.nl
 have hmain:WP Tryz.prog ⟨none,0⟩ (T77 (lookOf b) day) (Ends' fun r=>v77 r=iI (lineN b day)) (.l0 0):=by
  refine WP.count (fun i=>.l0 (i:Int)) rfl b.lines.length (fun i=>∀j,j<i->(b.lines.getD j zLine).day<=day) (fun j hj=>absurd hj (by omega)) (fun i hi hI=> ?_) fun hI=> ?_
  ·have hr:inR .i64 ((i:Int)+1)=true:=inR64 (by omega) (by omega);have hi':(i:Int)<b.lines.length:=by omega
   have hci:((i+1:Nat):Int)=(i:Int)+1:=by omega
   rw[hci];by_cases hd:(b.lines.getD i zLine).day<=day
   ·have hnx:∀j,j<i+1->(b.lines.getD j zLine).day<=day:=fun j hj=>by
     rcases Nat.lt_or_ge j i with q|q
     ·exact hI j q
     ·rw[show j=i by omega];exact hd
    refine WP.step ?_;simp only[T77,Go,Ends',v77,Tr.sure,SS,lookOf_b,zL0,hi',hd,Int.toNat_natCast];repeat' with_reducible first|intro _|apply aI
    all_goals first|(simp[hr,Go,Ends',v77,-List.getD_eq_getElem?_getD, *];done)|skip
    exact WP.stop (.inl ⟨rfl,hnx⟩)
   ·have hq:=lineN_eq h (Nat.le_of_lt hi) hI (fun _=>by omega);refine WP.step ?_;simp only[T77,Go,Ends',v77,Tr.sure,SS,lookOf_b,zL0,hi',hd,Int.toNat_natCast];repeat' with_reducible first|intro _|apply aI
    all_goals simp[hr,Go,Ends',v77,-List.getD_eq_getElem?_getD, *]
    all_goals exact .inr (congrArg (V.int .i64) hq.symm)
  ·have hq:=lineN_eq h (Nat.le_refl _) hI (fun q=>absurd q (by omega));refine WP.step ?_;simp only[T77,Go,Ends',v77,Tr.sure,SS,lookOf_b,zL0,Int.toNat_natCast];repeat' with_reducible first|intro _|apply aI
   all_goals simp[Go,Ends',v77,-List.getD_eq_getElem?_getD, *]
   all_goals exact congrArg (V.int .i64) hq.symm
 refine w77 (lookOf b) day (WP.step ?_);simp only[T77,Go,Ends',v77,Tr.sure,SS];repeat' with_reducible first|intro _|apply aI
 all_goals exact hmain
inductive P74y
 |e
inductive R74y
 |r0 (r1:Int)
 |r1 (r1:Int)
def T74y(b:Book)(day:Int)(numbers:List Int):P74y->Tr P74y R74y
 |.e=>let c1:=(b.bodies.length:Int)-(1:Int);let c2:=decide (0<(truthsR b (butL b 0)).length);(.call 88 [.agg (cC b)] (.tuple [lk (lookOf b),iI 0]) true true (.br ((0:Int) !=(0:Int)) (.out (.r0 0)) (.need (inR .i64 c1) (.call 64 [iI 0,iI c1,tint.lst numbers] (.bool (outside 0 c1 numbers)) true true (.br (outside 0 c1 numbers) (.out (.r0 4)) (.call 64 [iI 0,iI 364,.list 1 1 (litC 1 1 [iI day])] (.bool (!within day 0 364)) ((decide (1<=1))&&true) true (.br (!within day 0 364) (.out (.r0 7)) (.call 90 [lk (lookOf b),iI 0] (.bool c2) true true (.br (!c2) (.out (.r0 8)) (.out (.r1 0)))))))))))
noncomputable def g74y(b:Book)(day:Int)(numbers:List Int):P74y->List Item × St
 |.e=>bd Tryz.f74 [.agg (cC b),iI day,tint.lst numbers] 32
def n74y(b:Book)(day:Int)(numbers:List Int):R74y->Exit × St
 |.r0 r1=>(.ret,⟨mk 35 [(6,.nil),(7,iI r1)],[],[]⟩)
 |.r1 r1=>(.ret,⟨mk 35 [(6,lk (lookOf b)),(7,iI r1)],[],[]⟩)
def v74y(b:Book)(day:Int)(numbers:List Int):R74y->V
 |.r0 r1=>.tuple [.nil,iI r1]
 |.r1 r1=>.tuple [lk (lookOf b),iI r1]
theorem s74y(b:Book)(day:Int)(numbers:List Int):Sm 0 (g74y b day numbers) (T74y b day numbers) (n74y b day numbers)
 |.e=>⟨400,by kernel_rfl⟩
theorem q74y(b:Book)(day:Int)(numbers:List Int):∀r,bodyQ Tryz.prog Tryz.f74 (·=v74y b day numbers r) (n74y b day numbers r).1 (n74y b day numbers r).2
 |.r0 r1=>bq (.tuple [.nil,iI r1]) (by kernel_rfl)
 |.r1 r1=>bq (.tuple [lk (lookOf b),iI r1]) (by kernel_rfl)
theorem w74y(b:Book)(day:Int)(numbers:List Int){post:V->Prop}(h:WP Tryz.prog ⟨none,0⟩ (T74y b day numbers) (Ends' fun r=>post (v74y b day numbers r)) .e):PC 74 [.agg (cC b),iI day,tint.lst numbers] post:=
 PCalls.wq Tryz.func74 (s74y b day numbers) (q74y b day numbers) h
inductive P74n
 |e
inductive R74n
 |r0 (r1:Int)
def T74n(b:Book)(day:Int)(numbers:List Int):P74n->Tr P74n R74n
 |.e=>let c1:=(b.bodies.length:Int)-(1:Int);let c2:=decide (0<(truthsR b (butL b 0)).length);(.call 88 [.agg (cC b)] (.tuple [.nil,iI ((bookCheck b).2.2)]) true true (.br ((bookCheck b).2.2 !=(0:Int)) (.out (.r0 ((bookCheck b).2.2))) (.need (inR .i64 c1) (.call 64 [iI 0,iI c1,tint.lst numbers] (.bool (outside 0 c1 numbers)) true true (.br (outside 0 c1 numbers) (.out (.r0 4)) (.call 64 [iI 0,iI 364,.list 1 1 (litC 1 1 [iI day])] (.bool (!within day 0 364)) ((decide (1<=1))&&true) true (.br (!within day 0 364) (.out (.r0 7)) (.call 90 [.nil,iI 0] (.bool c2) true true (.br (!c2) (.out (.r0 8)) (.out (.r0 0)))))))))))
noncomputable def g74n(b:Book)(day:Int)(numbers:List Int):P74n->List Item × St
 |.e=>bd Tryz.f74 [.agg (cC b),iI day,tint.lst numbers] 32
def n74n(b:Book)(day:Int)(numbers:List Int):R74n->Exit × St
 |.r0 r1=>(.ret,⟨mk 35 [(6,.nil),(7,iI r1)],[],[]⟩)
def v74n(b:Book)(day:Int)(numbers:List Int):R74n->V
 |.r0 r1=>.tuple [.nil,iI r1]
theorem s74n(b:Book)(day:Int)(numbers:List Int):Sm 0 (g74n b day numbers) (T74n b day numbers) (n74n b day numbers)
 |.e=>⟨400,by kernel_rfl⟩
theorem q74n(b:Book)(day:Int)(numbers:List Int):∀r,bodyQ Tryz.prog Tryz.f74 (·=v74n b day numbers r) (n74n b day numbers r).1 (n74n b day numbers r).2
 |.r0 r1=>bq (.tuple [.nil,iI r1]) (by kernel_rfl)
theorem w74n(b:Book)(day:Int)(numbers:List Int){post:V->Prop}(h:WP Tryz.prog ⟨none,0⟩ (T74n b day numbers) (Ends' fun r=>post (v74n b day numbers r)) .e):PC 74 [.agg (cC b),iI day,tint.lst numbers] post:=
 PCalls.wq Tryz.func74 (s74n b day numbers) (q74n b day numbers) h
theorem toldR_err(b:Book)(ns:List Int)(day:Int):(toldR b ns day).2=if toldE b ns day≠0 then toldE b ns day else if(truthsR b []).length=0 then 8 else 0:=by
 unfold toldR;split
 ·rfl
 ·split<;>rfl
theorem c74(b:Book)(day:Int)(numbers:List Int):PC 74 [.agg (tBook.cells b),iI day,tint.lst numbers] (·=.tuple [if(toldR b numbers day).2=0 then lk (lookOf b)else .nil,iI (toldR b numbers day).2]):=by
 rw[toldR_err];by_cases h0:(bookCheck b).2.2=0
 ·have hok:=okBook h0;have hnb:=hok.nb;have k88:=c88y b h0;have k90:=c90 b hok 0;rw[butL_zero]at k90;have k64:=c64 0 ((b.bodies.length:Int)-1) numbers;have k64l:=fun(c:Nat->Nat->V) (hc:c 0 0=iI day)=>c64l 0 364 day hc;have hr:inR .i64 ((b.bodies.length:Int)-1)=true:=inR64 (by omega) (by omega);have hbz:=butL_zero b;have hE:toldE b numbers day=if outside 0 ((b.bodies.length:Int)-1) numbers then 4 else if within day 0 364 then 0 else 7:=by unfold toldE;rw[if_neg (by rw[h0];decide)]
  rw[hE]
  cases ho:outside 0 ((b.bodies.length:Int)-1) numbers with
  |true=>
   refine w74y b day numbers (WP.step ?_);simp only[T74y,Go,Ends',v74y,Tr.sure,SS,ho,hbz];repeat' with_reducible first|intro _|apply aI
   all_goals first|exact k88|(simp[hr,Go,Ends',v74y,-List.getD_eq_getElem?_getD, *];done)|(simp_all [hr,Go,Ends',v74y,-List.getD_eq_getElem?_getD];done)
  |false=>
   cases hw:within day 0 364 with
   |false=>
    simp only[hw,Bool.not_false]at k64l;refine w74y b day numbers (WP.step ?_);simp only[T74y,Go,Ends',v74y,Tr.sure,SS,ho,hbz,hw];repeat' with_reducible first|intro _|apply aI
    all_goals first|exact k88|exact(k64l _ rfl)|(simp[hr,Go,Ends',v74y,-List.getD_eq_getElem?_getD, *];done)|(simp_all [hr,Go,Ends',v74y,-List.getD_eq_getElem?_getD];done)
   |true=>
    simp only[hw,Bool.not_true]at k64l;by_cases ht:0<(truthsR b []).length
    ·have ht2:¬(truthsR b []).length=0:=by omega
     refine w74y b day numbers (WP.step ?_);simp only[T74y,Go,Ends',v74y,Tr.sure,SS,ho,hbz,hw,ht,ht2];repeat' with_reducible first|intro _|apply aI
     all_goals first|exact k88|exact(k64l _ rfl)|(simp[hr,Go,Ends',v74y,-List.getD_eq_getElem?_getD, *];done)|(simp_all [hr,Go,Ends',v74y,-List.getD_eq_getElem?_getD];done)
    ·have ht2:(truthsR b []).length=0:=by omega
     refine w74y b day numbers (WP.step ?_);simp only[T74y,Go,Ends',v74y,Tr.sure,SS,ho,hbz,hw,ht,ht2];repeat' with_reducible first|intro _|apply aI
     all_goals first|exact k88|exact(k64l _ rfl)|(simp[hr,Go,Ends',v74y,-List.getD_eq_getElem?_getD, *];done)|(simp_all [hr,Go,Ends',v74y,-List.getD_eq_getElem?_getD];done)
 ·have k88:=c88n b h0;have hE:toldE b numbers day=(bookCheck b).2.2:=by unfold toldE;rw[if_pos h0]
  rw[hE,if_pos h0,if_neg h0];refine w74n b day numbers (WP.step ?_);simp only[T74n,Go,Ends',v74n,Tr.sure,SS,h0];repeat' with_reducible first|intro _|apply aI
  all_goals exact k88
end
noncomputable section
inductive P18y
 |e
inductive R18y
 |r0 (r1:Int)
 |r1 (r0_0:List Pair) (r1:Int)
def T18y(b:Book):P18y->Tr P18y R18y
 |.e=>let c1:List V:=[uU,uU,.ref 1 0 0,uU,uU,uU,uU,uU,uU,uU,uU,uU,uU,uU,uU,fG 110 [rR (lk (lookOf b)),rR (iI 0)],uU,uU,uU,uU,uU,uU,uU,uU,uU,uU];let c2:=(firstP b).1.length;let c3:=(firstP b).1;(.call 74 [.agg (cC b),iI 0,.nils] (.tuple [lk (lookOf b),iI 0]) true true (.br ((0:Int) !=(0:Int)) (.out (.r0 0)) (.call 75 [lk (lookOf b),iI 0] (fG 110 [rR (lk (lookOf b)),rR (iI 0)]) true true (.wait 1 (.drop ⟨[uU,uU,.nil,uU,uU,uU,uU,uU,uU,uU,uU,uU,uU,uU,uU,.nil,uU,uU,uU,uU,uU,uU,uU,uU,uU,uU],[.void,.void],[]⟩ (.over (rangeOf Tryz.f18) ⟨c1,[.cells (cC b),.cells [.nils]],[]⟩ (.exit 0) ⟨c1,[.cells (cC b),.cells [.row 2 c2],.rows 95 2 c2 (rowsOf tPair c3),.obj (.deferred (some []))],[3]⟩ true (.wait 1 (.frz 2 (true&&(((decide ((firstP b).1.length<=(firstP b).1.length))&&true)&&true)) (.telc 1 [.list 2 c2 (rowsOf tPair c3)] [tPair.lst c3] (.out (.r1 c3 0)))))))))))
noncomputable def g18y(b:Book):P18y->List Item × St
 |.e=>bd Tryz.f18 [.agg (cC b)] 25
def n18y(b:Book):R18y->Exit × St
 |.r0 r1=>(.ret,⟨mk 26 [(2,.ref 1 0 0),(3,iI r1)],[.gone,.cells [.nils]],[]⟩)
 |.r1 r0_0 r1=>(.ret,⟨mk 26 [(2,.ref 1 0 0),(3,iI r1)],[.gone,.cells [tPair.lst r0_0],.gone,.obj (.deferred (some []))],[3]⟩)
def v18y(b:Book):R18y->V
 |.r0 r1=>.tuple [tPair.lst ([]:List Pair),iI r1]
 |.r1 r0_0 r1=>.tuple [tPair.lst r0_0,iI r1]
theorem s18y(b:Book):Sm 0 (g18y b) (T18y b) (n18y b)
 |.e=>⟨400,by kernel_rfl⟩
theorem q18y(b:Book):∀r,bodyQ Tryz.prog Tryz.f18 (·=v18y b r) (n18y b r).1 (n18y b r).2
 |.r0 r1=>⟨.inr rfl,by simp[n18y],(.tuple [.nils,iI r1]),(.tuple [tPair.lst ([]:List Pair),iI r1]),by kernel_rfl,(.tuple rfl fun j hj=>match j,hj with|0,_=>.weak (.imm rfl) VLe.nils|1,_=>.imm rfl),rfl⟩
 |.r1 r0_0 r1=>⟨.inr rfl,by simp[n18y],(.tuple [tPair.lst r0_0,iI r1]),(.tuple [tPair.lst r0_0,iI r1]),by kernel_rfl,(.imm rfl),rfl⟩
theorem w18y(b:Book){post:V->Prop}(h:WP Tryz.prog ⟨none,0⟩ (T18y b) (Ends' fun r=>post (v18y b r)) .e):PC 18 [.agg (cC b)] post:=
 PCalls.wq Tryz.func18 (s18y b) (q18y b) h
inductive P18n
 |e
inductive R18n
 |r0 (r1:Int)
def T18n(b:Book):P18n->Tr P18n R18n
 |.e=>(.call 74 [.agg (cC b),iI 0,.nils] (.tuple [.nil,iI ((toldR b [] 0).2)]) true true (.br ((toldR b [] 0).2 !=(0:Int)) (.out (.r0 ((toldR b [] 0).2))) (.wait 3 .never)))
noncomputable def g18n(b:Book):P18n->List Item × St
 |.e=>bd Tryz.f18 [.agg (cC b)] 25
def n18n(b:Book):R18n->Exit × St
 |.r0 r1=>(.ret,⟨mk 26 [(2,.ref 1 0 0),(3,iI r1)],[.gone,.cells [.nils]],[]⟩)
def v18n(b:Book):R18n->V
 |.r0 r1=>.tuple [tPair.lst ([]:List Pair),iI r1]
theorem s18n(b:Book):Sm 0 (g18n b) (T18n b) (n18n b)
 |.e=>⟨400,by kernel_rfl⟩
theorem q18n(b:Book):∀r,bodyQ Tryz.prog Tryz.f18 (·=v18n b r) (n18n b r).1 (n18n b r).2
 |.r0 r1=>⟨.inr rfl,by simp[n18n],(.tuple [.nils,iI r1]),(.tuple [tPair.lst ([]:List Pair),iI r1]),by kernel_rfl,(.tuple rfl fun j hj=>match j,hj with|0,_=>.weak (.imm rfl) VLe.nils|1,_=>.imm rfl),rfl⟩
theorem w18n(b:Book){post:V->Prop}(h:WP Tryz.prog ⟨none,0⟩ (T18n b) (Ends' fun r=>post (v18n b r)) .e):PC 18 [.agg (cC b)] post:=
 PCalls.wq Tryz.func18 (s18n b) (q18n b) h
inductive P18a
 |e
inductive R18a
 |r0
def T18a(n:Nat)(P:List Pair)(H:List (Nat->Int)):P18a->Tr P18a R18a
 |.e=>(.out (.r0))
noncomputable def g18a(n:Nat)(P:List Pair)(H:List (Nat->Int)):P18a->List Item × St
 |.e=>([.code (asgOf (rangeOf Tryz.f18))],⟨[uU,uU,.ref 1 0 0,uU,uU,uU,uU,uU,uU,uU,uU,uU,uU,uU,uU,uU,.agg [.list 2 n (rowsOf tPair P),.list 5 (n+1) (rowsOf tHave H)],uU,uU,uU,uU,uU,uU,uU,uU,uU],[.gone,.cells [.nils],.void],[]⟩)
def n18a(n:Nat)(P:List Pair)(H:List (Nat->Int)):R18a->Exit × St
 |.r0=>(.normal,⟨mk 26 [(2,.ref 1 0 0),(5,.ref 3 0 0)],[.gone,.cells [.nils],.void,.cells [.list 2 n (rowsOf tPair P),.list 5 (n+1) (rowsOf tHave H)]],[]⟩)
theorem s18a(n:Nat)(P:List Pair)(H:List (Nat->Int)):Sm 3 (g18a n P H) (T18a n P H) (n18a n P H)
 |.e=>⟨400,by kernel_rfl⟩
inductive P18b
 |e
inductive R18b
 |r0 (r0:List Pair)
def T18b(n:Nat)(P:List Pair)(H:List (Nat->Int)):P18b->Tr P18b R18b
 |.e=>let c1:=((n:Nat):Int).toNat;let c2:List V:=[.list 2 n (rowsOf tPair P),.list 5 (n+1) (rowsOf tHave H)];let c3:=rowsOf tPair (List.replicate c1 tPair.zero);(.sem (opAt Tryz.f18 6 3) [(.tmp 19,iI (n:Int)),(.tmp 19,iI (n:Int))] [.gone,.cells [.nils],.void,.cells c2] (.row 2 c1) [.gone,.cells [.nils],.rows 95 2 c1 (fun _ j=>([iI 0,iI 0]:List V).getD j uU),.cells c2] true (.telb 2 2 c1 (fun _ j=>([iI 0,iI 0]:List V).getD j uU) c3 (.sem (opAt Tryz.f18 7 3) [(.tmp 21,.row 2 c1),(.tmp 23,.list 2 n (rowsOf tPair P))] [.gone,.cells [.row 2 c1],.rows 95 2 c1 c3,.cells c2] (iI ((n:Nat):Int)) [.gone,.cells [.row 2 c1],.rows 95 2 c1 (rowsOf tPair P),.cells c2] true (.out (.r0 P)))))
noncomputable def g18b(n:Nat)(P:List Pair)(H:List (Nat->Int)):P18b->List Item × St
 |.e=>([.code (bdyOf (rangeOf Tryz.f18))],⟨[uU,uU,.ref 1 0 0,uU,uU,.ref 3 0 0,uU,uU,uU,uU,uU,uU,uU,uU,uU,uU,uU,uU,uU,uU,uU,uU,uU,uU,uU,uU],[.gone,.cells [.nils],.void,.cells [.list 2 n (rowsOf tPair P),.list 5 (n+1) (rowsOf tHave H)]],[]⟩)
def n18b(n:Nat)(P:List Pair)(H:List (Nat->Int)):R18b->Exit × St
 |.r0 r0=>(.exit 0,⟨mk 26 [],[.gone,.cells [.row 2 (((n:Nat):Int).toNat)],.rows 95 2 (((n:Nat):Int).toNat) (rowsOf tPair r0)],[]⟩)
theorem s18b(n:Nat)(P:List Pair)(H:List (Nat->Int)):Sm 3 (g18b n P H) (T18b n P H) (n18b n P H)
 |.e=>⟨400,by kernel_rfl⟩
theorem sem18m(n:Nat)(hn:n<=8)(b1 b3:Blk):SemOK Tryz.prog (opAt Tryz.f18 6 3) [(.tmp 19,iI (n:Int)),(.tmp 19,iI (n:Int))] [.gone,b1,.void,b3] (.row 2 n) [.gone,b1,.rows 95 2 n (fun _ j=>([iI 0,iI 0]:List V).getD j uU),b3]:=by
 have e:opAt Tryz.f18 6 3=.makeSlice 30 (.tmp 19) (.tmp 19):=by kernel_rfl
 rw[e];exact sem_makeAt (e:=95) (wd:=2) (zs:=[iI 0,iI 0]) (n:=(n:Int)) (by kernel_rfl) (by kernel_rfl) (by kernel_rfl) rfl (by omega) (by omega)
theorem sem18c(n:Nat)(P:List Pair)(b1 b3:Blk)(c0:Nat->Nat->V)(hP:P.length=n):SemOK Tryz.prog (opAt Tryz.f18 7 3) [(.tmp 21,.row 2 n),(.tmp 23,.list 2 n (rowsOf tPair P))] [.gone,b1,.rows 95 2 n c0,b3] (iI (n:Int)) [.gone,b1,.rows 95 2 n (rowsOf tPair P),b3]:=by
 have e:opAt Tryz.f18 7 3=.call {callee:=.builtin .copy,args:= #[.tmp 21,.tmp 23],argTypes:= #[30,30]}:=by kernel_rfl
 rw[e]
 exact sem_copyW (e:=95) (wd:=2) (i:=2) (by kernel_rfl) (by kernel_rfl) rfl (fun r hr j hj=>by
  rcases show j=0\/j=1 by omega with rfl|rfl<;>rfl)
theorem body18(l:Nat)(n:Nat)(hn:n<=8)(P:List Pair)(H:List (Nat->Int))(hP:P.length=n):AWP Tryz.prog ⟨some l,3⟩ (bdyOf (rangeOf Tryz.f18)) (g18b n P H .e).2 fun e S2=>e=.exit 0/\S2.h=[.gone,.cells [.row 2 n],.rows 95 2 n (rowsOf tPair P)]:=by
 have k1:=sem18m n hn;have k2:=fun b1 b3 c0=>sem18c n P b1 b3 c0 hP;refine AWP.wp mx (T18b n P H) (g18b n P H) (n18b n P H) .e rfl (s18b n P H) (post:=fun r=>(n18b n P H r).1=.exit 0/\(n18b n P H r).2.h=[.gone,.cells [.row 2 n],.rows 95 2 n (rowsOf tPair P)]) ?_ (fun r hr=>hr);refine WP.step ?_;simp only[T18b,Go,Ends',Tr.sure,SS,Int.toNat_natCast,zP0];repeat' with_reducible first|intro _|apply aI
 all_goals first|exact(k1 _ _)|exact(k2 _ _ _)|exact(by with_reducible exact tel_repP (by assumption))|skip
 all_goals exact rfl
abbrev t18(b:Book):List V:=[uU,uU,.ref 1 0 0,uU,uU,uU,uU,uU,uU,uU,uU,uU,uU,uU,uU,trF b 0,uU,uU,uU,uU,uU,uU,uU,uU,uU,uU]
theorem truthsR_in{b:Book}(h:OkBook b){t:Truth}{but:List Int}(ht:t∈truthsR b but):OkT b.bodies.length b.lines.length t:=truthsTo_ok b but b.lines.length t ht
theorem range18(b:Book)(h:OkBook b)(t:Truth)(h0:(truthsR b [])[0]? =some t):
  AWP Tryz.prog ⟨none,0⟩ (rangeOf Tryz.f18) ⟨t18 b,[.cells (tBook.cells b),.cells [.nils]],[]⟩ (fun e T=>e=.exit 0/\T=⟨t18 b,[.cells (tBook.cells b),.cells [.row 2 t.pairs.length],.rows 95 2 t.pairs.length (rowsOf tPair t.pairs),.obj (.deferred (some []))],[3]⟩):=by
 have e:rangeOf Tryz.f18=.rangeFunc (.tmp 15) #[16] (asgOf (rangeOf Tryz.f18)) (bdyOf (rangeOf Tryz.f18)):=by kernel_rfl
 have ht:=truthsR_in h (List.mem_of_getElem? h0);have hpl:t.pairs.length=b.lines.length:=ht.np;have hnl:=h.nl;have hy0:(ysB b 0)[0]? =some (yT b t):=by unfold ysB;rw[List.getElem?_map,butL_zero,h0];rfl
 have hne:ysB b 0≠ []:=fun q=>by rw[q]at hy0;cases hy0
 rw[hpl];refine AWP.reserve 1 ?_;rw[e]
 refine(AWP.rangeV1 (fs:=[true]) (T:=t18 b) (H1:=[.gone,.cells [.row 2 b.lines.length],.rows 95 2 b.lines.length (rowsOf tPair t.pairs)]) (jx:=.exit 0) (jc:=.exit 0) (f:=110) (caps:=[rR (lk (lookOf b)),rR (iI 0)])
  rfl rfl (fun i hi hv=> ?_) rfl (fun j=>.inl rfl) rfl rfl (PCalls.enters Tryz.func110 (c:=Tryz.f110.body.getD .skip) (by kernel_rfl) (by kernel_rfl)) (c110 b h 0) rfl rfl rfl rfl (fun l us hu=> ?_) (fun i k hi=> ?_) (fun i k hi=> ?_)).mono fun e T q=>q.2 hne
 ·match i,hi,hv with
  |0,_,hv=>cases hv
  |i+1,hi,_=>simp at hi
 ·rw[hy0]at hu;obtain rfl:us=[.agg [.list 2 b.lines.length (rowsOf tPair t.pairs),.list 5 (b.lines.length+1) (rowsOf tHave (t.haves.map fnH))]]:=by unfold yT yV at hu;cases hu;rfl
  refine⟨rfl,?_⟩;refine AWP.forget (t:=(setPs [16] [.agg [.list 2 b.lines.length (rowsOf tPair t.pairs),.list 5 (b.lines.length+1) (rowsOf tHave (t.haves.map fnH))]] (t18 b)).set 15 uU) (by simp) (forget_set _ 15) ?_
  refine AWP.wp mx (T18a b.lines.length t.pairs (t.haves.map fnH)) (g18a b.lines.length t.pairs (t.haves.map fnH)) (n18a b.lines.length t.pairs (t.haves.map fnH)) .e rfl (s18a b.lines.length t.pairs (t.haves.map fnH))
   (post:=fun r=>(n18a b.lines.length t.pairs (t.haves.map fnH) r).1=.normal/\(n18a b.lines.length t.pairs (t.haves.map fnH) r).2=(g18b b.lines.length t.pairs (t.haves.map fnH) .e).2) ?_ (fun r hr=> ?_)
  ·refine WP.step ?_;simp only[T18a,Go,Ends',Tr.sure,SS];repeat' with_reducible first|intro _|apply aI
   all_goals exact rfl
  ·rw[hr.2];exact⟨hr.1,rfl,body18 l b.lines.length hnl t.pairs (t.haves.map fnH) hpl⟩
 ·exact freeAll (fun b hb=>by
   rcases List.mem_cons.1 hb with rfl|hb
   ·trivial
   rcases List.mem_cons.1 hb with rfl|hb
   ·rfl
   rcases List.mem_cons.1 hb with rfl|hb
   ·trivial
   cases hb) i k hi
 ·exact freeAll (fun b hb=>by
   rcases List.mem_cons.1 hb with rfl|hb
   ·trivial
   rcases List.mem_cons.1 hb with rfl|hb
   ·rfl
   rcases List.mem_cons.1 hb with rfl|hb
   ·intro r j hr hj;rcases show j=0\/j=1 by omega with rfl|rfl<;>rfl
   cases hb) i k hi
theorem toldR_ok{b:Book}{ns:List Int}{day:Int}(h:(toldR b ns day).2=0):OkBook b/\(truthsR b []).length≠0/\(toldR b ns day).1=truthsR b []:=by
 have:=told_ok h;exact⟨this.1,by omega,this.2.2.2.2⟩
theorem c18(b:Book):PC 18 [.agg (tBook.cells b)] (·=.tuple [tPair.lst (firstP b).1,iI (firstP b).2]):=by
 have k74:=PCalls.arg (pre:=[.agg (tBook.cells b),iI 0]) (c74 b 0 []) VLe.nils;by_cases h0:(toldR b [] 0).2=0
 ·obtain⟨hok,hne,htl⟩:=toldR_ok h0
  obtain⟨t,ht⟩:∃t,(truthsR b [])[0]? =some t:=⟨_,List.getElem?_eq_getElem (by omega)⟩
  have hP:(firstP b).1=t.pairs:=by
   unfold firstP;rw[if_neg (fun q=>q h0),htl,gE,ht];rfl
  have hE:(firstP b).2=0:=by unfold firstP;rw[if_neg (fun q=>q h0)]
  rw[if_pos h0,h0]at k74;have k75:=c75 (lookOf b) 0;have hr:=range18 b hok t ht;rw[<-hP]at hr;rw[hE];refine w18y b (WP.step ?_);simp only[T18y,Go,Ends',v18y,Tr.sure,SS];repeat' with_reducible first|intro _|apply aI
  all_goals first|exact k74|exact k75|exact hr|exact(VLe.refl _)|(simp[Go,Ends',v18y,-List.getD_eq_getElem?_getD, *];done)
 ·have hP:firstP b=([],(toldR b [] 0).2):=by unfold firstP;rw[if_pos h0]
  rw[if_neg h0]at k74;rw[hP];refine w18n b (WP.step ?_);simp only[T18n,Go,Ends',v18n,Tr.sure,SS,h0];repeat' with_reducible first|intro _|apply aI
  all_goals exact k74
end
noncomputable section
inductive P78
 |e
 |l0 (x0_8:Int)
inductive R78
 |r0 (r0:Int)
def T78(s:List Int)(v:Int):P78->Tr P78 R78
 |.e=>(.go (.l0 0))
 |.l0 x0_8=>(.br (decide (x0_8<(s.length:Int))) (.need (decide (0<=x0_8)&&decide (x0_8<(s.length:Int))) (.br (v==(s.getD (x0_8).toNat tint.zero)) (.out (.r0 x0_8)) (.need (inR .i64 (x0_8+(1:Int))) (.go (.l0 (x0_8+(1:Int))))))) (.out (.r0 (-1))))
noncomputable def g78(s:List Int)(v:Int):P78->List Item × St
 |.e=>bd Tryz.f78 [tint.lst s,iI v] 17
 |.l0 x0_8=>(cutOf Tryz.f78 0,⟨mk 19 [(0,tint.lst s),(1,iI v),(7,iI (s.length:Int)),(8,iI x0_8)],[],[]⟩)
def n78:R78->Exit × St
 |.r0 r0=>(.ret,⟨mk 19 [(4,iI r0)],[],[]⟩)
def v78:R78->V
 |.r0 r0=>iI r0
theorem s78(s:List Int)(v:Int):Sm 0 (g78 s v) (T78 s v) (n78)
 |.e=>⟨400,by kernel_rfl⟩
 |.l0 _=>⟨400,by kernel_rfl⟩
theorem q78:∀r,bodyQ Tryz.prog Tryz.f78 (·=v78 r) (n78 r).1 (n78 r).2
 |.r0 r0=>bq (iI r0) (by kernel_rfl)
theorem w78(s:List Int)(v:Int){post:V->Prop}(h:WQ (T78 s v) v78 post .e):PC 78 [tint.lst s,iI v] post:=
 PCalls.wq Tryz.func78 (s78 s v) q78 h
inductive P79
 |e
 |l0 (x0_4:Int) (a0_0:List Int)
inductive R79
 |r0 (r0:List Int)
def T79(set:Int):P79->Tr P79 R79
 |.e=>(.wait 2 (.own 2 3 1 (.go (.l0 0 ([])))))
 |.l0 x0_4 a0_0=>let c1:=x0_4+(1:Int);(.br (decide (x0_4<(5:Int))) (.need (decide (0<=x0_4)) (.br ((bitsOf .and .i64 (set.fdiv (2^(min (x0_4).toNat 64))) (1:Int))==(1:Int)) (.need ((decide (a0_0.length=a0_0.length)&&decide (a0_0.length+1<=4294967296))&&decide (1<=1)) (.scal (fun _=>true) (.need (inR .i64 c1) (.go (.l0 c1 (x0_4::a0_0)))))) (.need (inR .i64 c1) (.go (.l0 c1 a0_0))))) (.out (.r0 a0_0)))
noncomputable def g79(set:Int):P79->List Item × St
 |.e=>bd Tryz.f79 [iI set] 17
 |.l0 x0_4 a0_0=>(cutOf Tryz.f79 0,⟨mk 18 [(0,iI set),(2,.row 0 a0_0.length),(4,iI x0_4)],[.rows 3 1 a0_0.length (rowsRev tint a0_0)],[]⟩)
def n79:R79->Exit × St
 |.r0 r0=>(.ret,⟨mk 18 [(2,.row 0 r0.length)],[.rows 3 1 r0.length (rowsRev tint r0)],[]⟩)
def v79:R79->V
 |.r0 r0=>tint.lst r0.reverse
theorem s79(set:Int):Sm 0 (g79 set) (T79 set) (n79)
 |.e=>⟨400,by kernel_rfl⟩
 |.l0 _ _=>⟨400,by kernel_rfl⟩
theorem q79:∀r,bodyQ Tryz.prog Tryz.f79 (·=v79 r) (n79 r).1 (n79 r).2
 |.r0 r0=>⟨.inr rfl,by simp[n79],(.row 0 r0.length),(tint.lst r0.reverse),by kernel_rfl,(.weak (.row rfl (Nat.le_refl _)) (VLe.rev tint r0)),rfl⟩
theorem w79(set:Int){post:V->Prop}(h:WQ (T79 set) v79 post .e):PC 79 [iI set] post:=
 PCalls.wq Tryz.func79 (s79 set) q79 h
theorem c78(s:List Int)(v:Int)(ix:Nat)(hl:s.length<=1000)(hi:ix<s.length)(hv:s.getD ix 0=v)(hn:∀j,j<ix->s.getD j 0≠v):PC 78 [tint.lst s,iI v] (·=iI (ix:Int)):=by
 have hmain:WP Tryz.prog ⟨none,0⟩ (T78 s v) (Ends' fun r=>v78 r=iI (ix:Int)) (.l0 0):=by
  refine WP.run (fun i=>.l0 (i:Int)) rfl ix (fun i hi2=> ?_) ?_
  ·have hr:inR .i64 ((i:Int)+1)=true:=inR64 (by omega) (by omega);have hi':(i:Int)<s.length:=by omega
   have hne:(v==s.getD i 0)=false:=by rw[beq_eq_false_iff_ne];exact fun q=>hn i hi2 q.symm
   refine WP.once ?_;simp only[T78,Tr.sure,SS,hi',hne,z1,Int.toNat_natCast];repeat' with_reducible first|intro _|apply aI
   all_goals simp[hr,Go,Ends',v78,-List.getD_eq_getElem?_getD, *]
  ·have hi':(ix:Int)<s.length:=by omega
   have he:(v==s.getD ix 0)=true:=by rw[beq_iff_eq];exact hv.symm
   refine WP.step ?_;simp only[T78,Go,Ends',v78,Tr.sure,SS,hi',he,z1,Int.toNat_natCast];repeat' with_reducible first|intro _|apply aI
 refine w78 s v (WP.step ?_);simp only[T78,Go,Ends',v78,Tr.sure,SS];repeat' with_reducible first|intro _|apply aI
 all_goals exact hmain
def listR(set:Int):List Int:=((List.range 5).filter (bitB set)).map fun(i:Nat)=>(i:Int)
def listTo(set:Int)(i:Nat):List Int:=((List.range i).filter (bitB set)).map fun(i:Nat)=>(i:Int)
theorem listTo_y{set:Int}{i:Nat}(h:bitB set i=true):(listTo set (i+1)).reverse=(i:Int)::(listTo set i).reverse:=by
 unfold listTo;rw[List.range_succ,List.filter_append];simp[h]
theorem listTo_n{set:Int}{i:Nat}(h:bitB set i=false):listTo set (i+1)=listTo set i:=by
 unfold listTo;rw[List.range_succ,List.filter_append];simp[h]
theorem listTo_len(set:Int)(i:Nat):(listTo set i).length<=i:=by
 unfold listTo;rw[List.length_map];exact Nat.le_trans (List.length_filter_le _ _) (by simp)
theorem c79(set:Int):PC 79 [iI set] (·=tint.lst (listR set)):=by
 have hmain:WP Tryz.prog ⟨none,0⟩ (T79 set) (Ends' fun r=>v79 r=tint.lst (listR set)) (.l0 0 []):=by
  refine WP.run (fun i=>.l0 (i:Int) (listTo set i).reverse) rfl 5 (fun i hi=> ?_) ?_
  ·have hr:inR .i64 ((i:Int)+1)=true:=inR64 (by omega) (by omega);have hi':(i:Int)<5:=by omega
   have hlen:=listTo_len set i;have hal:(listTo set i).reverse.length+1<=4294967296:=by rw[List.length_reverse];omega
   have hbe:((bitsOf .and .i64 (set.fdiv (2^(min i 64))) (1:Int))==(1:Int))=bitB set i:=rfl
   cases hb:bitB set i with
   |true=>
    rw[listTo_y hb];generalize(listTo set i).reverse=A at*
    rw[hb]at hbe;refine WP.once ?_;simp only[T79,Tr.sure,SS,hi',hbe,Int.toNat_natCast];repeat' with_reducible first|intro _|apply aI
    all_goals simp[hr,hal,Go,Ends',v79,-List.getD_eq_getElem?_getD, *]
   |false=>
    rw[listTo_n hb];generalize(listTo set i).reverse=A at*
    rw[hb]at hbe;refine WP.once ?_;simp only[T79,Tr.sure,SS,hi',hbe,Int.toNat_natCast];repeat' with_reducible first|intro _|apply aI
    all_goals simp[hr,Go,Ends',v79,-List.getD_eq_getElem?_getD, *]
  ·have e:(listTo set 5).reverse.reverse=listR set:=by rw[List.reverse_reverse];rfl
   generalize(listTo set 5).reverse=A at*
   refine WP.step ?_;simp only[T79,Go,Ends',v79,Tr.sure,SS];repeat' with_reducible first|intro _|apply aI
   all_goals first|(simp[e,Go,Ends',v79,-List.getD_eq_getElem?_getD, *];done)|(simp_all [e,Go,Ends',v79,-List.getD_eq_getElem?_getD];done)
 refine w79 set (WP.step ?_);simp only[T79,Go,Ends',v79,Tr.sure,SS];repeat' with_reducible first|intro _|apply aI
 all_goals exact hmain
def setI(p:Nat->Bool):Int:=(bif p 0 then 1 else 0)+(bif p 1 then 2 else 0)+(bif p 2 then 4 else 0)+(bif p 3 then 8 else 0)+(bif p 4 then 16 else 0)
def setB(a b c d e:Bool):Int:=(bif a then 1 else 0)+(bif b then 2 else 0)+(bif c then 4 else 0)+(bif d then 8 else 0)+(bif e then 16 else 0)
theorem setB_or:∀j:Fin 5,∀a b c d e:Bool,bitsOf .or .i64 (setB a b c d e) ((1:Int)*2^(min j.val 64))=setB (a||j.val==0) (b||j.val==1) (c||j.val==2) (d||j.val==3) (e||j.val==4):=by decide+kernel
theorem setB_bit:∀j:Fin 5,∀a b c d e:Bool,bitB (setB a b c d e) j.val=[a,b,c,d,e].getD j.val false:=by decide+kernel
theorem setI_or(p:Nat->Bool){j:Nat}(hj:j<5):bitsOf .or .i64 (setI p) ((1:Int)*2^(min j 64))=setI (fun i=>p i||j==i):=setB_or ⟨j,hj⟩ (p 0) (p 1) (p 2) (p 3) (p 4)
theorem setI_bit(p:Nat->Bool){j:Nat}(hj:j<5):bitB (setI p) j=p j:=by
 have:=setB_bit ⟨j,hj⟩ (p 0) (p 1) (p 2) (p 3) (p 4);rw[show setB (p 0) (p 1) (p 2) (p 3) (p 4)=setI p from rfl]at this;rw[this];rcases show j=0\/j=1\/j=2\/j=3\/j=4 by omega with rfl|rfl|rfl|rfl|rfl<;>rfl
theorem setI_congr{p q:Nat->Bool}(h:∀i,i<5->p i=q i):setI p=setI q:=by
 unfold setI;rw[h 0 (by omega),h 1 (by omega),h 2 (by omega),h 3 (by omega),h 4 (by omega)]
theorem listR_set(p:Nat->Bool){n:Nat}(hn:n<=5)(hp:∀i,n<=i->i<5->p i=false):listR (setI p)=((List.range n).filter p).map fun(i:Nat)=>(i:Int):=by
 unfold listR;congr 1
 have e:(List.range 5).filter (bitB (setI p))=(List.range 5).filter p:=List.filter_congr fun i hi=>setI_bit p (List.mem_range.1 hi);rw[e]
 have e2:List.range 5=List.range n++(List.range 5).drop n:=by
  conv=>lhs;rw[<-List.take_append_drop n (List.range 5)]
  rw[List.take_range,Nat.min_eq_left hn]
 have e3:((List.range 5).drop n).filter p=[]:=by
  refine List.filter_eq_nil_iff.2 fun i hi=> ?_;obtain⟨k,hk,rfl⟩:=List.getElem_of_mem hi;rw[List.getElem_drop,List.getElem_range];rw[List.length_drop,List.length_range]at hk;rw[hp _ (by omega) (by omega)];decide
 rw[e2,List.filter_append,e3,List.append_nil]
theorem shl_in{j:Nat}(hj:j<5):(decide (0<=(j:Int))&&inR .i64 ((1:Int)*2^(min j 64)))=true:=by
 rcases show j=0\/j=1\/j=2\/j=3\/j=4 by omega with rfl|rfl|rfl|rfl|rfl<;>decide
theorem have_in{b:Book}(h:OkBook b){t:Truth}{but:List Int}(ht:t∈truthsR b but){k:Nat}(hk:k<=b.lines.length):(t.haves.getD k []).Perm (firstH b):=
 truthsTo_perm h but b.lines.length (Nat.le_refl _) t ht _ (getD_mem [] _ k (by rw[(truthsR_in h ht).nh];omega))
theorem perm_get{n:Nat}{l:List Int}(hp:l.Perm ((List.range n).map fun(i:Nat)=>(i:Int))):l.length=n/\l.Nodup/\(∀i,i<n->0<=l.getD i 0/\l.getD i 0<n)/\∀v:Int,0<=v->v<n->∃i,i<n/\l.getD i 0=v:=by
 have hl:l.length=n:=by rw[hp.length_eq];simp
 refine⟨hl,?_,fun i hi=> ?_,fun v h0 h1=> ?_⟩
 ·refine hp.nodup_iff.2 (List.pairwise_map.2 (List.nodup_range.imp fun hne e=>hne (by exact_mod_cast e)))
 ·have:=hp.mem_iff.1 (getD_mem 0 l i (by omega));simp only[List.mem_map,List.mem_range]at this;obtain⟨j,hj,e⟩:=this;omega
 ·have:v∈l:=hp.mem_iff.2 (by simp only[List.mem_map,List.mem_range];exact⟨v.toNat,by omega,by omega⟩);obtain⟨i,hi,e⟩:=List.getElem_of_mem this;exact⟨i,by omega,by rw[gE,List.getElem?_eq_getElem hi,e];rfl⟩
theorem nodup_get{l:List Int}(h:l.Nodup){i j:Nat}(hi:i<l.length)(hj:j<l.length)(e:l.getD i 0=l.getD j 0):i=j:=by
 rw[gE,gE,List.getElem?_eq_getElem hi,List.getElem?_eq_getElem hj]at e;have hp:=List.pairwise_iff_getElem.1 h;rcases Nat.lt_trichotomy i j with q|q|q
 ·exact absurd (Option.some.inj (by simpa using e)) (hp i j hi hj q)
 ·exact q
 ·exact absurd (Option.some.inj (by simpa using e)).symm (hp j i hj hi q)
end
end Go.Proofs.YtemgodefhcbleaaGreat
