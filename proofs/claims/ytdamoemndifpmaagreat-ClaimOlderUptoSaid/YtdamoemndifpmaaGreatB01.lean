/-
  Part of the proof of the Claim laws. Conditions: those that stand in each theorem.
-/
import Derived.WalkKit
import Derived.RangeFuncRecord
import Derived.RangeFuncOwn
import Derived.RangeFuncCalls
set_option linter.unusedSimpArgs false
set_option linter.unusedVariables false
namespace Ab
open Go
theorem aI{a b:Prop}(h:a)(k:b):a/\b:=⟨h,k⟩
theorem gE{α}{l:List α}{i:Nat}{a:α}:l.getD i a=l[i]?.getD a:=List.getD_eq_getElem?_getD
theorem sJ{α}(a b:α):(some a=some b)=(a=b):=Option.some.injEq a b
theorem sN{α}{l:List α}{i j:Nat}(h:i≠j){a:α}:(l.set i a)[j]? =l[j]? :=List.getElem?_set_ne h
theorem aG{α}{xs:Array α}{i:Nat}{d:α}:xs.getD i d=xs[i]?.getD d:=Array.getD_eq_getD_getElem?
theorem aL{α}{l k:List α}{i:Nat}(h:i<l.length):(l++k)[i]? =l[i]? :=List.getElem?_append_left h
inductive V where
 |undef
 |bool (b:Bool)
 |int (k:IntKind) (n:Int)
 |str (s:ByteArray)
 |nil
 |nils
 |nilfunc
 |nilmap
 |niliface
 |cref (n:Nat) (c:Nat->V)
 |list (w n:Nat) (c:Nat->Nat->V)
 |ref (i r off:Nat)
 |row (i n:Nat)
 |map (i:Nat)
 |yld (i:Nat)
 |sub (i r off w n:Nat)
 |arr (w n:Nat) (c:Nat->Nat->V)
 |agg (vs:List V)
 |tuple (vs:List V)
 |func (fn:Fn) (first caps:List V)
 |iface (t:TypeId) (v:V)
instance:Inhabited V:=⟨.undef⟩
structure Amb where
 os:Os
 out:Array (Nat × ByteArray)
 tape:Nat->Question->Nat
 since:Nat
structure Amb.ok(a:Amb)(w:World):Prop where
 os:w.os=a.os
 out:w.output=a.out
 tape:w.tape=a.tape
 drawn:a.since<=w.drawn
structure Mild(w w':World):Prop where
 os:w'.os=w.os
 out:w'.output=w.output
 tape:w'.tape=w.tape
 drawn:w.drawn<=w'.drawn
theorem Mild.refl(w:World):Mild w w:=⟨rfl,rfl,rfl,Nat.le_refl _⟩
theorem Mild.trans{a b c:World}(h:Mild a b)(h':Mild b c):Mild a c:=⟨h'.os.trans h.os,h'.out.trans h.out,h'.tape.trans h.tape,Nat.le_trans h.drawn h'.drawn⟩
theorem Amb.ok.mild{a:Amb}{w w':World}(h:a.ok w)(hm:Mild w w'):a.ok w':=⟨hm.os.trans h.os,hm.out.trans h.out,hm.tape.trans h.tape,Nat.le_trans h.drawn hm.drawn⟩
def ambOf(w:World):Amb:=⟨w.os,w.output,w.tape,w.drawn⟩
theorem ambOf_ok(w:World):(ambOf w).ok w:=⟨rfl,rfl,rfl,Nat.le_refl _⟩
theorem Mild.of_amb{w w':World}(h:(ambOf w).ok w'):Mild w w':=⟨h.os,h.out,h.tape,h.drawn⟩
structure Kept where
 f:Nat->Option Obj
 amb:Amb
instance:CoeFun Kept (fun _=>Nat->Option Obj):=⟨Kept.f⟩
structure Kept.le(G G':Kept):Prop where
 sub:∀b o,G b=some o->G' b=some o
 same:G.amb=G'.amb
instance (G G':Kept):CoeFun (Kept.le G G') (fun _=>∀b o,G b=some o->G' b=some o):=⟨Kept.le.sub⟩
theorem Kept.le_refl(G:Kept):G.le G:=⟨fun _ _ h=>h,rfl⟩
theorem Kept.le.trans{A B C:Kept}(h:A.le B)(h':B.le C):A.le C:=⟨fun b o x=>h' b o (h b o x),h.same.trans h'.same⟩
def Kept.ext(G K G':Kept):Prop:=G.le G'/\∀b o,G' b=some o->G b=some o\/K b=none
theorem Kept.ext_refl(G K:Kept):G.ext K G:=⟨G.le_refl,fun _ _ h=>.inl h⟩
theorem Kept.ext.trans{G K G' K' G'':Kept}(h:G.ext K G')(hK:K.le K')(h':G'.ext K' G''):G.ext K G'':=
 ⟨h.1.trans h'.1,fun b o hb=>by
  rcases h'.2 b o hb with h1|h1
  ·exact h.2 b o h1
  ·right
   cases hk:K b with
   |none=>rfl
   |some o'=>rw[hK b o' hk]at h1;cases h1⟩
structure Home where
 b:Nat
 w:Nat
 cap:Nat
inductive Hm where
 |void
 |nil
 |lie (x:Home)
 |ext (l:Nat)
abbrev Homes:=List Hm
def Homes.le(β β':Homes):Prop:=∀(i:Nat) (h:Hm),h≠ .void->β[i]? =some h->β'[i]? =some h
theorem Homes.le_refl(β:Homes):β.le β:=fun _ _ _ h=>h
theorem Homes.nil_le(β:Homes):Homes.le [] β:=fun _ _ _ h=>by simp at h
theorem Homes.le.trans{A B C:Homes}(h:A.le B)(h':B.le C):A.le C:=fun b o v x=>h' b o v (h b o v x)
theorem Homes.le_append(β γ:Homes):β.le (β++γ):=fun i h _ hh=>by
 rw[aL]
 ·exact hh
 ·exact(List.getElem?_eq_some_iff.1 hh).1
abbrev maxn:Nat:=281474976710656
inductive Rel(G:Kept):Homes->V->Value->Prop where
 |undef {β} (x:Value):Rel G β .undef x
 |bool {β} (b:Bool):Rel G β (.bool b) (.bool b)
 |int {β} (k:IntKind) (n:Int):Rel G β (.int k n) (.int k n)
 |str {β} (s:ByteArray):Rel G β (.str s) (.string s)
 |nil {β}:Rel G β .nil (.pointer none)
 |nils {β a}:Rel G β .nils (.slice a 0 0)
 |nilfunc {β}:Rel G β .nilfunc .nilFunc
 |nilmap {β}:Rel G β .nilmap (.map none)
 |niliface {β}:Rel G β .niliface .nilIface
 |cref {β n c b off cs e fz} (hG:G b=some (.cells cs e fz)) (hsz:off+n<=cs.size)
   (h:∀j,j<n->Rel G [] (c j) (cs.getD (off+j) Go.undef)):Rel G β (.cref n c) (.pointer (some ⟨b,off,none⟩))
 |list0 {β w c a cap}:Rel G β (.list w 0 c) (.slice a 0 cap)
 |list {β w n c b off cap cs e fz} (hG:G b=some (.cells cs e fz)) (hsz:off+n*w<=cs.size) (hcap:n<=cap) (hn:n<=maxn)
   (h:∀i j,i<n->j<w->Rel G [] (c i j) (cs.getD (off+(i*w+j)) Go.undef)):Rel G β (.list w n c) (.slice (some ⟨b,off,none⟩) n cap)
 |ref {β:Homes} {i r off h} (hi:β[i]? =some (.lie h)):Rel G β (.ref i r off) (.pointer (some ⟨h.b,r*h.w+off,none⟩))
 |row {β:Homes} {i n cap h} (hi:β[i]? =some (.lie h)) (hn:n<=cap) (hc:cap<=h.cap) (hm:n<=maxn):Rel G β (.row i n) (.slice (some ⟨h.b,0,none⟩) n cap)
 |row0 {β:Homes} {i} {a} (hi:β[i]? =some .nil):Rel G β (.row i 0) (.slice a 0 0)
 |map {β:Homes} {i h} (hi:β[i]? =some (.lie h)):Rel G β (.map i) (.map (some h.b))
 |yld {β:Homes} {i l} (hi:β[i]? =some (.ext l)):Rel G β (.yld i) (.func (.yield l) #[] #[])
 |sub {β:Homes} {i r off w n cap h} (hi:β[i]? =some (.lie h)) (hc:n<=cap) (hm:n<=maxn):Rel G β (.sub i r off w n) (.slice (some ⟨h.b,r*h.w+off,none⟩) n cap)
 |sub0 {β i r off w a cap}:Rel G β (.sub i r off w 0) (.slice a 0 cap)
 |arr {β w n c xs} (hs:xs.size=n*w) (h:∀r j,r<n->j<w->Rel G [] (c r j) (xs.getD (r*w+j) Go.undef)):Rel G β (.arr w n c) (.agg xs)
 |agg {β vs xs} (hs:vs.length=xs.size) (h:∀j,j<vs.length->Rel G β (vs.getD j .undef) (xs.getD j Go.undef)):Rel G β (.agg vs) (.agg xs)
 |tuple {β vs xs} (hs:vs.length=xs.size) (h:∀j,j<vs.length->Rel G β (vs.getD j .undef) (xs.getD j Go.undef)):Rel G β (.tuple vs) (.tuple xs)
 |func {β fn f c f' c'} (hf:f.length=f'.size) (hc:c.length=c'.size) (h:∀j,j<f.length->Rel G β (f.getD j .undef) (f'.getD j Go.undef))
   (h':∀j,j<c.length->Rel G β (c.getD j .undef) (c'.getD j Go.undef)):Rel G β (.func fn f c) (.func fn f' c')
 |iface {β t v x} (h:Rel G β v x):Rel G β (.iface t v) (.iface t x)
theorem Rel.monoF{G G':Kept}(hG:∀b o,G b=some o->G' b=some o){β:Homes}{v:V}{x:Value}(h:Rel G β v x):∀ {β':Homes},β.le β'->Rel G' β' v x:=by
 induction h with
 |undef x=>intros;exact .undef x
 |bool b=>intros;exact .bool b
 |int k n=>intros;exact .int k n
 |str s=>intros;exact .str s
 |nil=>intros;exact .nil
 |nils=>intros;exact .nils
 |nilfunc=>intros;exact .nilfunc
 |nilmap=>intros;exact .nilmap
 |niliface=>intros;exact .niliface
 |cref g hsz h ih=>intros;exact .cref (hG _ _ g) hsz fun j hj=>ih j hj (Homes.le_refl _)
 |list0=>intros;exact .list0
 |list g hsz hcap hn h ih=>intros;exact .list (hG _ _ g) hsz hcap hn fun i j hi hj=>ih i j hi hj (Homes.le_refl _)
 |ref hi=>intro β' hb;exact .ref (hb _ _ (by simp) hi)
 |row hi hn hc hm=>intro β' hb;exact .row (hb _ _ (by simp) hi) hn hc hm
 |row0 hi=>intro β' hb;exact .row0 (hb _ _ (by simp) hi)
 |map hi=>intro β' hb;exact .map (hb _ _ (by simp) hi)
 |yld hi=>intro β' hb;exact .yld (hb _ _ (by simp) hi)
 |sub hi hc hm=>intro β' hb;exact .sub (hb _ _ (by simp) hi) hc hm
 |sub0=>intros;exact .sub0
 |arr hs h ih=>intros;exact .arr hs fun r j hr hj=>ih r j hr hj (Homes.le_refl _)
 |agg hs h ih=>intro β' hb;exact .agg hs fun j hj=>ih j hj hb
 |tuple hs h ih=>intro β' hb;exact .tuple hs fun j hj=>ih j hj hb
 |func hf hc h h' ih ih'=>intro β' hb;exact .func hf hc (fun j hj=>ih j hj hb) fun j hj=>ih' j hj hb
 |iface h ih=>intro β' hb;exact .iface (ih hb)
theorem Rel.mono{G G':Kept}(hG:G.le G'){β:Homes}{v:V}{x:Value}(h:Rel G β v x):∀ {β':Homes},β.le β'->Rel G' β' v x:=h.monoF hG.sub
theorem Rel.up{G:Kept}{v:V}{x:Value}(h:Rel G [] v x)(β:Homes):Rel G β v x:=h.mono (Kept.le_refl G) (Homes.nil_le β)
structure Ext where
 I:Nat->List V->Kept->World->Prop
 go:List V->Bool
 base:Kept
 ys:List V
 keeps:∀ {l tr E w},I l tr E w->∀b o,E b=some o->w.heap[b]? =some o
 stable:∀ {l tr E w w'},I l tr E w->(∀b o,E b=some o->w'.heap[b]? =some o)->(∀b o,base b=some o->w'.heap[b]? =some o)->w.heap.size<=w'.heap.size->Mild w w'->I l tr E w'
inductive Blk where
 |gone
 |void
 |cells (cs:List V)
 |rows (e:TypeId) (w n:Nat) (c:Nat->Nat->V)
 |iter (m:V) (n:Nat) (seen:Array Nat)
 |obj (o:Obj)
 |ext (X:Ext) (tr:List V)
 |rowsL (e:TypeId) (w n:Nat) (c:Nat->Nat->V) (r0 j0:Nat) (v:V)
 |maps (ks:List Value) (vs:List V)
instance:Inhabited Blk:=⟨.gone⟩
def BlkOK(G:Kept)(β:Homes)(w:World):Blk->Hm->Prop
 |.gone,_=>True
 |.void,.void=>True
 |.cells cs,.lie x=>∃c e,w.heap[x.b]? =some (.cells c e (0,0))/\c.size=cs.length/\∀j,j<cs.length->Rel G β (cs.getD j .undef) (c.getD j Go.undef)
 |.rows _ n m _,.nil=>m=0/\0<n
 |.rows e n m rs,.lie x=>x.w=n/\0<n/\x.cap<=maxLen/\∃c,w.heap[x.b]? =some (.cells c e (0,0))/\c.size=x.cap*n/\m<=x.cap/\m<=maxn/\
   ∀r j,r<m->j<n->Rel G [] (rs r j) (c.getD (r*n+j) Go.undef)
 |.iter m n seen,.lie x=>∃b,Rel G β m (.map (some b))/\w.heap[x.b]? =some (.mapIter (some b) n seen n)
 |.obj o,.lie x=>w.heap[x.b]? =some o
 |.ext _ _,.ext _=>True
 |.rowsL e n m rs r0 j0 v,.lie x=>x.w=n/\0<n/\x.cap<=maxLen/\∃c,w.heap[x.b]? =some (.cells c e (0,0))/\c.size=x.cap*n/\m<=x.cap/\m<=maxn/\
   (∀r j,r<m->j<n->(r≠r0\/j≠j0)->Rel G [] (rs r j) (c.getD (r*n+j) Go.undef))/\r0<m/\j0<n/\Rel G β v (c.getD (r0*n+j0) Go.undef)
 |.maps ks vs,.lie x=>∃es,w.heap[x.b]? =some (.map es ks.length)/\es.size=ks.length/\∀j k,ks[j]? =some k->∃e,es[j]? =some e/\e.key=k/\e.born=j/\Rel G β (vs.getD j .undef) e.val
 |_,_=>False
theorem BlkOK.monoF{G G':Kept}{β β':Homes}{w w':World}{k:Blk}{x:Hm}(h:BlkOK G β w k x)(hG:∀b o,G b=some o->G' b=some o)(hb:β.le β')
  (hw:∀y,x=.lie y->w'.heap[y.b]? =w.heap[y.b]?):BlkOK G' β' w' k x:=by
 cases x with
 |void=>cases k<;>first|exact h|exact h.elim
 |nil=>cases k<;>first|exact h|exact h.elim
 |lie y=>
  have e:=hw y rfl
  cases k with
  |gone=>trivial
  |void=>exact h
  |cells cs=>obtain⟨c,t,h1,h2,h3⟩:=h;exact⟨c,t,e.trans h1,h2,fun j hj=>(h3 j hj).monoF hG hb⟩
  |rows et n m rs=>obtain⟨h0,hn,hc,c,h1,h2,h3,h4,h5⟩:=h;exact⟨h0,hn,hc,c,e.trans h1,h2,h3,h4,fun r j hr hj=>(h5 r j hr hj).monoF hG (Homes.le_refl _)⟩
  |iter m n seen=>obtain⟨b,h1,h2⟩:=h;exact⟨b,h1.monoF hG hb,e.trans h2⟩
  |obj o=>exact e.trans h
  |ext X tr=>exact h
  |rowsL et n m rs r0 j0 v=>
   obtain⟨h0,hn,hc,c,h1,h2,h3,h4,h5,h6,h7,h8⟩:=h;exact⟨h0,hn,hc,c,e.trans h1,h2,h3,h4,fun r j hr hj hne=>(h5 r j hr hj hne).monoF hG (Homes.le_refl _),h6,h7,h8.monoF hG hb⟩
  |maps ks vs=>obtain⟨es,h1,h2,h3⟩:=h;exact⟨es,e.trans h1,h2,fun j k hj=>by obtain⟨z,q1,q2,q3,q4⟩:=h3 j k hj;exact⟨z,q1,q2,q3,q4.monoF hG hb⟩⟩
 |ext l=>cases k<;>first|exact h|exact h.elim
theorem BlkOK.mono{G G':Kept}{β β':Homes}{w w':World}{k:Blk}{x:Hm}(h:BlkOK G β w k x)(hG:G.le G')(hb:β.le β')
  (hw:∀y,x=.lie y->w'.heap[y.b]? =w.heap[y.b]?):BlkOK G' β' w' k x:=h.monoF hG.sub hb hw
structure RH(β:Homes)(G K:Kept)(h:List Blk)(w:World):Prop where
 len:β.length=h.length
 blk:∀(i:Nat) (k:Blk),h[i]? =some k->BlkOK G β w k (β[i]?.getD .void)
 inj:∀(i j:Nat) (x y:Home) (k k':Blk),h[i]? =some k->h[j]? =some k'->k≠ .gone->k'≠ .gone->β[i]? =some (.lie x)->β[j]? =some (.lie y)->x.b=y.b->i=j
 sep:∀(i:Nat) (x:Home) (k:Blk),h[i]? =some k->k≠ .gone->β[i]? =some (.lie x)->K x.b=none/\x.b<w.heap.size
 keep:∀b o,K b=some o->w.heap[b]? =some o
 gk:G.le K
 amb:K.amb.ok w
 ext:∀(i:Nat) (X:Ext) (tr:List V),h[i]? =some (.ext X tr)->∃l E,β[i]? =some (.ext l)/\X.I l tr E w/\X.base.le K/\
  ∀b,E b≠none->K b=none/\∀(j:Nat) (x:Home) (k:Blk),h[j]? =some k->k≠ .gone->β[j]? =some (.lie x)->x.b≠b
theorem Ext.lt{X:Ext}{l:Nat}{tr:List V}{E:Kept}{w:World}(h:X.I l tr E w){b:Nat}(hb:E b≠none):b<w.heap.size:=by
 cases he:E b with
 |none=>exact absurd he hb
 |some o=>exact(Array.getElem?_eq_some_iff.1 (X.keeps h b o he)).1
theorem RH.congr{β:Homes}{G K:Kept}{h:List Blk}{w w':World}(r:RH β G K h w)(hw:∀b,b<w.heap.size->w'.heap[b]? =w.heap[b]?)(hs:w.heap.size<=w'.heap.size)(hm:Mild w w'):RH β G K h w' where
 len:=r.len
 blk i k hk:=by
  by_cases hg:k=.gone
  ·subst hg;cases(β[i]?.getD .void)<;>trivial
  refine(r.blk i k hk).mono (Kept.le_refl _) (Homes.le_refl _) fun y hy=>hw _ ?_
  cases hb:β[i]? with
  |none=>simp[hb]at hy
  |some z=>simp[hb]at hy;subst hy;exact(r.sep i y k hk hg hb).2
 inj:=r.inj
 sep i x k hk hg hb:=⟨(r.sep i x k hk hg hb).1,Nat.lt_of_lt_of_le (r.sep i x k hk hg hb).2 hs⟩
 keep b o hb:=by
  have h1:=r.keep b o hb;rw[hw b (Array.getElem?_eq_some_iff.1 h1).1];exact h1
 gk:=r.gk
 amb:=r.amb.mild hm
 ext i X tr hi:=by
  obtain⟨l,E,h1,h2,hbs,h3⟩:=r.ext i X tr hi
  exact⟨l,E,h1,X.stable h2 (fun b o hb=>by
   have q:=X.keeps h2 b o hb
   rw[hw b (Array.getElem?_eq_some_iff.1 q).1];exact q) (fun b o hb=>by
   have q:=r.keep b o (hbs b o hb)
   rw[hw b (Array.getElem?_eq_some_iff.1 q).1];exact q) hs hm,hbs,h3⟩
theorem RH.drew{β:Homes}{G K:Kept}{h:List Blk}{w:World}(r:RH β G K h w):RH β G K h w.drew:=r.congr (fun _ _=>rfl) (Nat.le_refl _) ⟨rfl,rfl,rfl,Nat.le_succ _⟩
theorem heap_alloc_lt(w:World)(o:Obj){b:Nat}(h:b<w.heap.size):(w.alloc o).heap[b]? =w.heap[b]? :=by
 show(w.heap.push o)[b]? =_;rw[Array.getElem?_push,if_neg (by omega)]
theorem heap_alloc_new(w:World)(o:Obj):(w.alloc o).heap[w.heap.size]? =some o:=World.alloc_heap_new w o
theorem Mild.alloc(w:World)(o:Obj):Mild w (w.alloc o):=⟨rfl,rfl,rfl,Nat.le_refl _⟩
theorem RH.alloc{β:Homes}{G K:Kept}{h:List Blk}{w:World}(r:RH β G K h w)(o:Obj):RH β G K h (w.alloc o):=
 r.congr (fun _ hb=>heap_alloc_lt w o hb) (by simp) (Mild.alloc w o)
theorem RH.push{β:Homes}{G K:Kept}{h:List Blk}{w:World}(r:RH β G K h w){o:Obj}{k:Blk}{x:Home}(hx:x.b=w.heap.size)
  (hk:BlkOK G (β++ [Hm.lie x]) (w.alloc o) k (.lie x)):RH (β++ [Hm.lie x]) G K (h++ [k]) (w.alloc o):=by
 have hl:=r.len;have hr:=r.alloc o;have old:∀ {i:Nat},i<h.length->(β++ [Hm.lie x])[i]? =β[i]? :=fun hi=>by rw[aL (by omega)]
 have knone:K w.heap.size=none:=by
  cases hk:K w.heap.size with
  |none=>rfl
  |some o'=>have:=(Array.getElem?_eq_some_iff.1 (r.keep _ _ hk)).1;omega
 refine⟨by simp[hl],?_,?_,?_,hr.keep,r.gk,hr.amb,?_⟩
 ·intro i k' hi;rcases Nat.lt_or_ge i h.length with hlt|hge
  ·rw[aL hlt]at hi;rw[old hlt];exact(hr.blk i k' hi).mono (Kept.le_refl _) (Homes.le_append _ _) fun _ _=>rfl
  ·rw[List.getElem?_append_right hge]at hi
   have:i=h.length:=by
    rcases Nat.lt_or_ge (i-h.length) 1 with h'|h'
    ·omega
    ·rw[List.getElem?_eq_none (by simpa using h')]at hi;simp at hi
   subst this;simp at hi;subst hi;have:(β++ [Hm.lie x])[h.length]? =some (.lie x):=by rw[<-hl];simp
   rw[this];exact hk
 ·intro i j x' y' k1 k2 hi hj g1 g2 hbi hbj hxy
  have last:∀ {i:Nat} {k:Blk},(h++ [k])[i]?≠none->i<=h.length:=fun {i k} hne=>by
   rcases Nat.lt_or_ge h.length i with h'|h'
   ·exact absurd (List.getElem?_eq_none (by simp;omega)) hne
   ·exact h'
  have li:=last (i:=i) (k:=k) (by rw[hi];simp);have lj:=last (i:=j) (k:=k) (by rw[hj];simp);rcases Nat.lt_or_ge i h.length with hi'|hi'<;>rcases Nat.lt_or_ge j h.length with hj'|hj'
  ·rw[aL hi']at hi;rw[aL hj']at hj;rw[old hi']at hbi;rw[old hj']at hbj;exact r.inj i j x' y' k1 k2 hi hj g1 g2 hbi hbj hxy
  ·have:j=h.length:=by omega
   subst this;have hz:(β++ [Hm.lie x])[h.length]? =some (.lie x):=by rw[<-hl];simp
   rw[hz]at hbj;simp at hbj;subst hbj;rw[aL hi']at hi;rw[old hi']at hbi;have:=(r.sep i x' k1 hi g1 hbi).2;omega
  ·have:i=h.length:=by omega
   subst this;have hz:(β++ [Hm.lie x])[h.length]? =some (.lie x):=by rw[<-hl];simp
   rw[hz]at hbi;simp at hbi;subst hbi;rw[aL hj']at hj;rw[old hj']at hbj;have:=(r.sep j y' k2 hj g2 hbj).2;omega
  ·omega
 ·intro i x' k1 hi g hbi;rcases Nat.lt_or_ge i h.length with hi'|hi'
  ·rw[aL hi']at hi;rw[old hi']at hbi;exact hr.sep i x' k1 hi g hbi
  ·have:i=h.length:=by
    rcases Nat.lt_or_ge h.length i with h'|h'
    ·rw[List.getElem?_eq_none (by simp;omega)]at hi;simp at hi
    ·omega
   subst this;have hz:(β++ [Hm.lie x])[h.length]? =some (.lie x):=by rw[<-hl];simp
   rw[hz]at hbi;simp at hbi;subst hbi;rw[hx];exact⟨knone,by simp⟩
 ·intro i X tr hi;have hz:(β++ [Hm.lie x])[h.length]? =some (.lie x):=by rw[<-hl];simp
  have lt:i<h.length:=by
   rcases Nat.lt_or_ge i h.length with hlt|hge
   ·exact hlt
   ·rw[List.getElem?_append_right hge]at hi
    have:i=h.length:=by
     rcases Nat.lt_or_ge (i-h.length) 1 with h'|h'
     ·omega
     ·rw[List.getElem?_eq_none (by simpa using h')]at hi;simp at hi
    subst this;simp at hi;subst hi;exact hk.elim
  rw[aL lt]at hi;obtain⟨l,E,h1,h2,hbs,h3⟩:=r.ext i X tr hi
  refine⟨l,E,by rw[old lt];exact h1,X.stable h2 (fun b o hb=>by
   have q:=X.keeps h2 b o hb
   rw[heap_alloc_lt w _ (Array.getElem?_eq_some_iff.1 q).1];exact q) (fun b o hb=>hr.keep b o (hbs b o hb)) (by simp) (Mild.alloc w _),hbs,fun b hb=>⟨(h3 b hb).1,fun j y k1 hj g hbj=> ?_⟩⟩
  rcases Nat.lt_or_ge j h.length with hj'|hj'
  ·rw[aL hj']at hj;rw[old hj']at hbj;exact(h3 b hb).2 j y k1 hj g hbj
  ·have:j=h.length:=by
    rcases Nat.lt_or_ge h.length j with h'|h'
    ·rw[List.getElem?_eq_none (by simp;omega)]at hj;simp at hj
    ·omega
   subst this;rw[hz]at hbj;simp at hbj;subst hbj;have:=Ext.lt h2 hb;omega
theorem RH.push_none{β:Homes}{G K:Kept}{h:List Blk}{w:World}(r:RH β G K h w){n:Nat}(e:TypeId)(c:Nat->Nat->V)(hn:0<n):RH (β++ [Hm.nil]) G K (h++ [.rows e n 0 c]) w:=by
 have hl:=r.len;have old:∀ {i:Nat},i<h.length->(β++ [Hm.nil])[i]? =β[i]? :=fun hi=>by rw[aL (by omega)]
 have hz:(β++ [Hm.nil])[h.length]? =some .nil:=by rw[<-hl];simp
 have cases3:∀ {i:Nat} {k:Blk},(h++ [Blk.rows e n 0 c])[i]? =some k->i<h.length\/i=h.length:=fun {i k} hi=>by
  rcases Nat.lt_or_ge h.length i with h'|h'
  ·rw[List.getElem?_eq_none (by simp;omega)]at hi;simp at hi
  ·omega
 refine⟨by simp[hl],?_,?_,?_,r.keep,r.gk,r.amb,?_⟩
 ·intro i k' hi;rcases cases3 hi with hlt|rfl
  ·rw[aL hlt]at hi;rw[old hlt];exact(r.blk i k' hi).mono (Kept.le_refl _) (Homes.le_append _ _) fun _ _=>rfl
  ·simp at hi;subst hi;rw[hz];exact⟨rfl,hn⟩
 ·intro i j x' y' k1 k2 hi hj g1 g2 hbi hbj hxy;rcases cases3 hi with hi'|rfl
  ·rcases cases3 hj with hj'|rfl
   ·rw[aL hi']at hi;rw[aL hj']at hj;rw[old hi']at hbi;rw[old hj']at hbj;exact r.inj i j x' y' k1 k2 hi hj g1 g2 hbi hbj hxy
   ·rw[hz]at hbj;simp at hbj
  ·rw[hz]at hbi;simp at hbi
 ·intro i x' k1 hi g hbi;rcases cases3 hi with hi'|rfl
  ·rw[aL hi']at hi;rw[old hi']at hbi;exact r.sep i x' k1 hi g hbi
  ·rw[hz]at hbi;simp at hbi
 ·intro i X tr hi;rcases cases3 hi with hi'|rfl
  ·rw[aL hi']at hi;obtain⟨l,E,h1,h2,hbs,h3⟩:=r.ext i X tr hi;refine⟨l,E,by rw[old hi'];exact h1,h2,hbs,fun b hb=>⟨(h3 b hb).1,fun j y k1 hj g hbj=> ?_⟩⟩;rcases cases3 hj with hj'|rfl
   ·rw[aL hj']at hj;rw[old hj']at hbj;exact(h3 b hb).2 j y k1 hj g hbj
   ·rw[hz]at hbj;simp at hbj
  ·simp at hi
theorem RH.write{β:Homes}{G K:Kept}{h:List Blk}{w w':World}(r:RH β G K h w){i:Nat}{k k':Blk}{x:Home}(hi:h[i]? =some k)(hk:k≠ .gone)(hb:β[i]? =some (.lie x))
  (hw:∀b,b≠x.b->w'.heap[b]? =w.heap[b]?) (hs:w'.heap.size=w.heap.size) (hk':BlkOK G β w' k' (.lie x)) (hm:Mild w w':=by first|exact Mild.setRow _ _ _|assumption|exact⟨rfl,rfl,rfl,Nat.le_refl _⟩):RH β G K (h.set i k') w':=by
 have hsep:=r.sep i x k hi hk hb;have hil:i<h.length:=(List.getElem?_eq_some_iff.1 hi).1;refine⟨by simp[r.len],?_,?_,?_,?_,r.gk,r.amb.mild hm,?_⟩
 ·intro j kj hj;by_cases e:j=i
  ·subst e;rw[List.getElem?_set_self hil]at hj;simp at hj;subst hj;rw[hb];exact hk'
  ·rw[sN (Ne.symm e)]at hj;by_cases hg:kj=.gone
   ·subst hg;cases(β[j]?.getD .void)<;>trivial
   refine(r.blk j kj hj).mono (Kept.le_refl _) (Homes.le_refl _) fun y hy=>hw _ fun hxy=>e ?_
   cases hbj:β[j]? with
   |none=>simp[hbj]at hy
   |some z=>simp[hbj]at hy;subst hy;exact r.inj j i y x kj k hj hi hg hk hbj hb hxy
 ·intro a b xa xb ka kb ha hb' ga gb hba hbb hxy
  have fix:∀ {a:Nat} {ka:Blk},(h.set i k')[a]? =some ka->ka≠ .gone->∃kk,h[a]? =some kk/\kk≠ .gone:=fun {a ka} ha ga=>by
   by_cases e:a=i
   ·subst e;exact⟨k,hi,hk⟩
   ·rw[sN (Ne.symm e)]at ha;exact⟨ka,ha,ga⟩
  obtain⟨k1,h1,g1⟩:=fix ha ga;obtain⟨k2,h2,g2⟩:=fix hb' gb;exact r.inj a b xa xb k1 k2 h1 h2 g1 g2 hba hbb hxy
 ·intro j y kj hj hg hbj;rw[hs];by_cases e:j=i
  ·subst e;rw[hb]at hbj;simp at hbj;subst hbj;exact hsep
  ·rw[sN (Ne.symm e)]at hj;exact r.sep j y kj hj hg hbj
 ·intro b o hKb;rw[hw b (fun e=>by rw[e,hsep.1]at hKb;simp at hKb)];exact r.keep b o hKb
 ·intro j X tr hj;by_cases e:j=i
  ·subst e;rw[List.getElem?_set_self hil]at hj;simp at hj;subst hj;exact hk'.elim
  ·rw[sN (Ne.symm e)]at hj;obtain⟨l,E,h1,h2,hbs,h3⟩:=r.ext j X tr hj
   refine⟨l,E,h1,X.stable h2 (fun b o hbo=>by
    rw[hw b (fun e=>(h3 b (by rw[hbo];simp)).2 i x k hi hk hb e.symm)];exact X.keeps h2 b o hbo) (fun b o hbo=>by
    rw[hw b (fun e=>by have:=hbs b o hbo;rw[e,hsep.1]at this;cases this)];exact r.keep b o (hbs b o hbo)) (by rw[hs];exact Nat.le_refl _) hm,hbs,fun b hE=>⟨(h3 b hE).1,fun q y k1 hq g hbq=> ?_⟩⟩
   by_cases e2:q=i
   ·subst e2;exact(h3 b hE).2 q y k hi hk hbq
   ·rw[sN (Ne.symm e2)]at hq;exact(h3 b hE).2 q y k1 hq g hbq
structure Drew(w w':World):Prop where
 tape:w'.tape=w.tape
 drawn:w.drawn<=w'.drawn
theorem Drew.refl(w:World):Drew w w:=⟨rfl,Nat.le_refl _⟩
theorem Drew.trans{a b c:World}(h:Drew a b)(h':Drew b c):Drew a c:=⟨h'.tape.trans h.tape,Nat.le_trans h.drawn h'.drawn⟩
theorem viewStore_drew{P:Program}{w:World}{at_:Addr}{u:TypeId}{k:Addr}{v:Value}{atomic:Bool}{r:World × List Addr}(h:w.viewStore P at_ u k v atomic=.ok r):Drew w r.1:=by
 unfold World.viewStore at h;simp only[bind,Except.bind,pure,Except.pure,_root_.throwThe,MonadExceptOf.throw,MonadExcept.throw]at h;repeat' split at h
 all_goals first
  |(cases h;exact⟨rfl,Nat.le_refl _⟩)
  |cases h
theorem farStore_drew{P:Program}{w:World}{a:Addr}{v:Value}{atomic:Bool}{r:World × List Addr}(h:w.farStore P a v atomic=.ok r):Drew w r.1:=by
 unfold World.farStore at h;split at h
 ·split at h
  ·rename_i hv;cases h;exact viewStore_drew hv
  ·cases h
 ·cases h
theorem ask_drew{α:Type}:∀(x:Ask α) (w:World),Drew w (w.ask x).2
 |.done a,w=>Drew.refl w
 |.ask what range k,w=>by
  unfold World.ask;simp only;split
  ·exact ask_drew _ w
  ·exact Drew.trans (b:={w with drawn:=w.drawn+1}) ⟨rfl,Nat.le_succ _⟩ (ask_drew _ _)
theorem sys_drew(w:World)(c:Sys):Drew w (w.sys c).2:=by
 have h:=ask_drew (Kernel.perform c w.os) w;unfold World.sys;split
 ·exact Drew.refl w
 ·rename_i hq;rw[hq]at h;exact⟨h.tape,h.drawn⟩
theorem run_drew{P:Program}{α:Type}(s:Sem α):∀ {w w':World} {a:α},s.run P w=.ok a w'->Drew w w':=by
 induction s with
 |pure a=>intro w w' b h;simp only[Sem.run,Result.ok.injEq]at h;obtain⟨-,rfl⟩:=h;exact Drew.refl _
 |load m a k ih=>
  intro w w' b h;simp only[Sem.run]at h;split at h
  ·exact ih _ h
  ·split at h
   ·exact ih _ h
   ·cases h
 |store m a v k ih=>
  intro w w' b h;cases v;all_goals simp only[Sem.run]at h
  all_goals first
   |(cases h;done)
   |(split at h
     ·split at h
      ·cases h
      ·exact Drew.trans (b:=w.setCell a _) (by unfold World.setCell;exact⟨rfl,Nat.le_refl _⟩) (ih h)
     ·split at h
      ·rename_i hf;exact(farStore_drew hf).trans (ih h)
      ·cases h)
 |new o k ih=>intro w w' b h;exact Drew.trans (b:={w with heap:=w.heap.push o}) ⟨rfl,Nat.le_refl _⟩ (ih _ h)
 |shape r k ih=>intro w w' b h;exact ih _ h
 |freeze a n k ih=>intro w w' b h;exact Drew.trans (b:=w.freeze a n) (by unfold World.freeze;split<;>exact⟨rfl,Nat.le_refl _⟩) (ih h)
 |frozen a k ih=>intro w w' b h;exact ih _ h
 |getObj r k ih=>
  intro w w' b h;simp only[Sem.run]at h;split at h
  ·cases h
  ·exact ih _ h
  ·cases h
 |setObj r o k ih=>
  intro w w' b h;simp only[Sem.run]at h;split at h
  ·cases h
  ·exact Drew.trans (b:={w with heap:=w.heap.setIfInBounds r o}) ⟨rfl,Nat.le_refl _⟩ (ih h)
  ·cases h
 |choose q k ih=>
  intro w w' b h;simp only[Sem.run]at h;split at h
  ·exact ih _ h
  ·exact Drew.trans (b:={w with drawn:=w.drawn+1}) ⟨rfl,Nat.le_succ _⟩ (ih _ h)
 |sys c k ih=>intro w w' b h;exact(sys_drew w c).trans (ih _ h)
 |program k ih=>intro w w' b h;exact ih _ h
 |mark _ k ih=>intro w w' b h;exact ih h
 |halt h=>intro w w' b h;cases h
structure St where
 t:List V
 h:List Blk
 d:List Nat:=[]
def scalarOf:Value->V
 |.bool b=>.bool b
 |.int k n=>.int k n
 |.string s=>.str s
 |.pointer none=>.nil
 |.slice none 0 0=>.nils
 |.nilFunc=>.nilfunc
 |.map none=>.nilmap
 |.nilIface=>.niliface
 |_=>.undef
theorem rel_scalarOf{G:Kept}{β:Homes}(v:Value):Rel G β (scalarOf v) v:=by
 unfold scalarOf;split<;>constructor
def ofValue:Value->V
 |.agg cs=>.agg (cs.toList.map scalarOf)
 |v=>scalarOf v
theorem getD_map_scalar(cs:Array Value)(j:Nat)(hj:j<(cs.toList.map scalarOf).length):(cs.toList.map scalarOf).getD j .undef=scalarOf (cs.getD j Go.undef):=by
 have h:j<cs.size:=by simpa using hj
 simp[gE,aG,h]
theorem rel_ofValue{G:Kept}{β:Homes}(v:Value):Rel G β (ofValue v) v:=by
 unfold ofValue;split
 ·rename_i cs;exact .agg (by simp) fun j hj=>by rw[getD_map_scalar cs j hj];exact rel_scalarOf _
 ·exact rel_scalarOf _
def St.eval(S:St):Operand->V
 |.tmp t=>S.t.getD t .undef
 |.const v=>ofValue v
 |.global _=>.undef
 |.func f=>.func (.func f) [] []
def St.put(S:St)(dst:Option Tmp)(v:V):St:=
 match dst with
 |some d=>{S with t:=S.t.set d v}
 |none=>S
structure RS(β:Homes)(G K:Kept)(S:St)(a:Act)(w:World):Prop where
 h:RH β G K S.h w
 size:a.tmps.size=S.t.length
 tmp:∀j,Rel G β (S.t.getD j .undef) (a.tmps.getD j Go.undef)
 marks:a.defers.length=S.d.length
 mark:∀j,j<S.d.length->∃x:Home,β[S.d.getD j 0]? =some (.lie x)/\a.defers[j]? =some {target:=.collected x.b,args:= #[]}/\S.h[S.d.getD j 0]? =some (.obj (.deferred (some [])))
theorem RS.eval{β:Homes}{G K:Kept}{S:St}{a:Act}{w:World}(r:RS β G K S a w)(x:Operand):Rel G β (S.eval x) (a.eval x):=by
 cases x with
 |tmp t=>exact r.tmp t
 |const v=>exact rel_ofValue v
 |global g=>exact .undef _
 |func f=>exact .func (by simp) (by simp) (by simp) (by simp)
theorem RS.put{β:Homes}{G K:Kept}{S:St}{a:Act}{w:World}(r:RS β G K S a w){v:V}{x:Value}(h:Rel G β v x)(dst:Option Tmp):RS β G K (S.put dst v) (a.put dst x) w:=by
 cases dst with
 |none=>exact r
 |some d=>
  refine⟨r.h,by simp[Act.put,St.put,r.size],fun j=> ?_,r.marks,r.mark⟩;simp only[Act.put,St.put,gE,aG];by_cases e:d=j
  ·subst e;by_cases hl:d<S.t.length
   ·have hl':d<a.tmps.size:=by rw[r.size];exact hl
    simp[hl,hl',h]
   ·have hl':¬d<a.tmps.size:=by rw[r.size];exact hl
    rw[List.getElem?_eq_none (by simpa using hl)];exact .undef _
  ·rw[sN e,Array.getElem?_setIfInBounds_ne e];simpa only[gE,aG]using r.tmp j
structure Env where
 ro:Option Nat
 m:Nat
abbrev wide(ro:Env):Fence:={Fence.wide with round:=ro.ro}
def Homes.low(m:Nat)(β β':Homes):Prop:=Homes.le (β.take m) β'
theorem Homes.low_refl(m:Nat)(β:Homes):Homes.low m β β:=fun i h hv hh=>by
 rcases Nat.lt_or_ge i m with q|q
 ·rwa[List.getElem?_take_of_lt q]at hh
 ·rw[List.getElem?_eq_none (by simp;omega)]at hh;cases hh
theorem Homes.low.trans{m:Nat}{A B C:Homes}(h:Homes.low m A B)(h':Homes.low m B C):Homes.low m A C:=fun i x hv hh=>by
 rcases Nat.lt_or_ge i m with q|q
 ·exact h' i x hv (by rw[List.getElem?_take_of_lt q];exact h i x hv hh)
 ·rw[List.getElem?_eq_none (by simp;omega)]at hh;cases hh
theorem Homes.le.low{A B:Homes}(h:A.le B)(m:Nat):Homes.low m A B:=fun i x hv hh=>by
 rcases Nat.lt_or_ge i m with q|q
 ·rw[List.getElem?_take_of_lt q]at hh;exact h i x hv hh
 ·rw[List.getElem?_eq_none (by simp;omega)]at hh;cases hh
theorem Homes.low.mono{m k:Nat}{A B:Homes}(h:Homes.low m A B)(hk:k<=m):Homes.low k A B:=fun i x hv hh=>by
 rcases Nat.lt_or_ge i k with q|q
 ·rw[List.getElem?_take_of_lt q]at hh;exact h i x hv (by rw[List.getElem?_take_of_lt (by omega)];exact hh)
 ·rw[List.getElem?_eq_none (by simp;omega)]at hh;cases hh
def Post(m:Nat)(Q:Exit->St->Prop)(β:Homes)(G K:Kept)(e:Exit)(a:Act)(w:World):Prop:=
 ∃S β' G' K',Homes.low m β β'/\G.ext K G'/\K.le K'/\RS β' G' K' S a w/\Q e S
theorem Post.up{m:Nat}{Q:Exit->St->Prop}{β β':Homes}{G K G' K':Kept}(hB:Homes.low m β β')(hG:G.ext K G')(hK:K.le K'){e:Exit}{a:Act}{w:World}(h:Post m Q β' G' K' e a w):Post m Q β G K e a w:=
 let⟨S,β2,G2,K2,h0,h1,h2,r,q⟩:=h;⟨S,β2,G2,K2,hB.trans h0,hG.trans hK h1,hK.trans h2,r,q⟩
def AWP(P:Program)(ro:Env)(c:Code)(S:St)(Q:Exit->St->Prop):Prop:=
 ∀β G K a w,RS β G K S a w->c.wpIn (wide ro) 0 P (Post ro.m Q β G K) a w
section rules
variable {P:Program} {ro:Env} {S:St} {Q:Exit->St->Prop}
theorem AWP.mono{c:Code}{Q':Exit->St->Prop}(h:AWP P ro c S Q)(hq:∀e S,Q e S->Q' e S):AWP P ro c S Q':=
 fun β G K a w r=>wpIn_mono (h β G K a w r) fun e a' w' ⟨S',β',G',K',h0,h1,h2,r',q⟩=>⟨S',β',G',K',h0,h1,h2,r',hq _ _ q⟩
theorem AWP.exit{id:Nat}(h:Q (.exit id) S):AWP P ro (.exit id) S Q:=fun β G K _ _ r=>wpIn_exit ⟨S,β,G,K,Homes.low_refl _ _,G.ext_refl K,K.le_refl,r,h⟩
theorem AWP.ret(h:Q .ret S):AWP P ro .ret S Q:=fun β G K _ _ r=>wpIn_ret ⟨S,β,G,K,Homes.low_refl _ _,G.ext_refl K,K.le_refl,r,h⟩
end rules
def VLe(v v':V):Prop:=∀G β x,Rel G β v x->Rel G β v' x
theorem VLe.refl(v:V):VLe v v:=fun _ _ _ h=>h
theorem VLe.undef(v:V):VLe v .undef:=fun _ _ x _=>.undef x
def szOf(P:Program)(t:TypeId):Nat:=P.cellsOf t
def aggT(P:Program)(t:TypeId):Bool:=
 match P.underlying t with
 |some (.struct _)|some (.array _ _)=>true
 |_=>false
def hasT(P:Program)(t:TypeId):Bool:=(P.info? t).isSome&&(P.underlying t).isSome
def V.scalar:V->Bool
 |.undef|.agg _|.tuple _|.arr _ _ _=>false
 |_=>true
theorem Rel.scalar{G:Kept}{β:Homes}{v:V}{x:Value}(h:Rel G β v x)(hv:v.scalar=true):x.cells= #[x]/\x.oneCell'=true:=by
 cases h<;>first|(exact⟨rfl,rfl⟩)|(simp[V.scalar]at hv)
def V.flat:V->Option (List V)
 |.agg vs=>some vs
 |.arr w n c=>some ((List.range (n*w)).map fun q=>c (q/w) (q%w))
 |_=>none
theorem Rel.flat{G:Kept}{β:Homes}{v:V}{x:Value}{vs:List V}(h:Rel G β v x)(hf:v.flat=some vs):∃xs,x=.agg xs/\vs.length=xs.size/\∀j,j<vs.length->Rel G β (vs.getD j .undef) (xs.getD j Go.undef):=by
 cases h with
 |agg hs hr=>simp only[V.flat,sJ]at hf;subst hf;exact⟨_,rfl,hs,hr⟩
 |arr hs hr=>
  rename_i w n c xs;simp only[V.flat,sJ]at hf;subst hf;refine⟨_,rfl,by simp[hs],fun j hj=> ?_⟩;have hj':j<n*w:=by simpa using hj
  have hw:0<w:=by
   rcases Nat.eq_zero_or_pos w with h0|h0
   ·subst h0;simp at hj'
   ·exact h0
  have:=(hr (j/w) (j%w) (Nat.div_lt_of_lt_mul (by rwa[Nat.mul_comm]at hj')) (Nat.mod_lt _ hw)).up β;rw[Nat.div_add_mod']at this;rw[gE];simpa[hj']using this
 |_=>simp[V.flat]at hf
def cellsOf(P:Program)(t:TypeId)(v:V):Option (List V):=
 if aggT P t then
  match v.flat with
  |some vs=>if vs.length=szOf P t/\vs.all V.scalar=true then some vs else none
  |none=>none
 else if v.scalar=true/\szOf P t=1 then some [v]else none
theorem rel_cellsOf{P:Program}{G:Kept}{β:Homes}{t:TypeId}{v:V}{x:Value}{vs:List V}(h:Rel G β v x)(hc:cellsOf P t v=some vs):
  x.cells.size=vs.length/\vs.length=szOf P t/\(∀j,j<vs.length->Rel G β (vs.getD j .undef) (x.cells.getD j Go.undef))/\(∀y∈x.cells.toList,y.oneCell'=true):=by
 unfold cellsOf at hc;split at hc
 ·split at hc
  ·rename_i us hf;split at hc
   ·rename_i hl;cases hc;obtain⟨xs,rfl,hs,h⟩:=h.flat hf;refine⟨hs.symm,hl.1,h,fun y hy=> ?_⟩;obtain⟨i,hi,rfl⟩:=List.mem_iff_getElem.1 hy;have hi2:i<xs.size:=by simpa[Value.cells]using hi
    have hi':i<vs.length:=by rw[hs];exact hi2
    have:=h i hi'
    have hv:(vs.getD i .undef).scalar=true:=by
     rw[gE,List.getElem?_eq_getElem hi'];exact List.all_eq_true.1 hl.2 _ (List.getElem_mem hi')
    have:=(this.scalar hv).2;simpa[aG,Value.cells,hi2]using this
   ·cases hc
  ·cases hc
 ·split at hc
  ·rename_i hl;cases hc;obtain⟨h1,h2⟩:=h.scalar hl.1;rw[h1];refine⟨rfl,hl.2.symm,fun j hj=> ?_,fun y hy=> ?_⟩
   ·have:j=0:=by simpa using hj
    subst this;exact h
   ·simp at hy;subst hy;exact h2
  ·cases hc
theorem getD_ofFn{n:Nat}(f:Nat->V)(j:Nat)(hj:j<n):((List.range n).map f).getD j .undef=f j:=by
 simp[gE,hj]
theorem run_typeInfo'{P:Program}{t:TypeId}{i:TypeInfo}(h:P.info? t=some i)(w:World):(typeInfo t).run P w=.ok i w:=by
 simp[typeInfo,h]
theorem run_underlying'{P:Program}{t:TypeId}{d:TypeDesc}(h:P.underlying t=some d)(w:World):(underlying t).run P w=.ok d w:=by
 simp[underlying,h]
theorem run_sizeOf'{P:Program}{t:TypeId}(h:hasT P t=true)(w:World):(Go.sizeOf t).run P w=.ok (szOf P t) w:=by
 unfold hasT at h
 cases hi:P.info? t with
 |none=>simp[hi]at h
 |some i=>simp[Go.sizeOf,run_typeInfo' hi,szOf,Program.cellsOf,hi]
theorem run_isAgg'{P:Program}{t:TypeId}(h:hasT P t=true)(w:World):(isAgg t).run P w=.ok (aggT P t) w:=by
 unfold hasT at h
 cases hu:P.underlying t with
 |none=>simp[hu]at h
 |some d=>
  simp only[isAgg,Sem.run_bind,run_underlying' hu,Result.andThen_ok,aggT,hu];cases d<;>rfl
def loadV(P:Program)(h:List Blk)(t:TypeId):V->Option (Bool × V)
 |.cref n c=>if aggT P t then some (decide (szOf P t<=n),.agg ((List.range (szOf P t)).map c))else some (decide (0<n),c 0)
 |.ref i r off=>
  match h[i]? with
  |some (.cells cs)=>
   if r=0 then
    if aggT P t then some (decide (off+szOf P t<=cs.length),.agg ((cs.drop off).take (szOf P t)))
    else some (decide (off<cs.length),cs.getD off .undef)
   else none
  |some (.rows _ w n c)=>
   if aggT P t then some (decide (r<n)&&decide (off+szOf P t<=w),.agg ((List.range (szOf P t)).map fun j=>c r (off+j)))
   else some (decide (r<n)&&decide (off<w),c r off)
  |some (.rowsL _ _ _ _ r0 j0 v)=>if aggT P t then none else some (decide (r=r0)&&decide (off=j0),v)
  |_=>none
 |_=>none
theorem cell_of_heap{w:World}{b:Nat}{c:Array Value}{e:TypeId}{fz:Nat × Nat}(h:w.heap[b]? =some (.cells c e fz))(off:Nat)(ho:off<c.size):
  w.cell? ⟨b,off,none⟩=some (c.getD off Go.undef):=by
 simp[World.cell?,h,aG,ho]
theorem addr_add(b off n:Nat):(Addr.mk b off none).add n=⟨b,off+n,none⟩:=by
 unfold Addr.add;split
 ·rename_i h;subst h;rfl
 ·rfl
theorem run_loadVar'{P:Program}{t:TypeId}{w:World}{b off:Nat}{c:Array Value}{e:TypeId}{fz:Nat × Nat}(ht:hasT P t=true)(h:w.heap[b]? =some (.cells c e fz)):
  (aggT P t=true->off+szOf P t<=c.size->(loadVar t ⟨b,off,none⟩).run P w=.ok (.agg ((List.range (szOf P t)).map fun j=>c.getD (off+j) Go.undef).toArray) w)/\
  (aggT P t=false->off<c.size->(loadVar t ⟨b,off,none⟩).run P w=.ok (c.getD off Go.undef) w):=by
 refine⟨fun ha hs=> ?_,fun ha hs=> ?_⟩
 ·simp only[loadVar,Sem.run_bind,run_isAgg' ht,Result.andThen_ok,ha,if_true,run_sizeOf' ht];have:=run_loadCells (P:=P) (w:=w) ⟨b,off,none⟩ (szOf P t) (fun j=>c.getD (off+j) Go.undef) (fun j hj=>by rw[addr_add];exact cell_of_heap h _ (by omega));rw[this];simp only[Result.andThen_ok,Sem.run_pure]
 ·simp only[loadVar,Sem.run_bind,run_isAgg' ht,Result.andThen_ok,ha,Bool.false_eq_true,if_false,run_load,cell_of_heap h _ hs]
theorem load_ok{P:Program}{β:Homes}{G K:Kept}{h:List Blk}{w:World}(r:RH β G K h w){t:TypeId}(ht:hasT P t=true){v:V}{x:Value}(hv:Rel G β v x){u:V}(hl:loadV P h t v=some (true,u)):
  ∃y,(Instr.loadAt t x).run P w=.ok y w/\Rel G β u y:=by
 cases hv with
 |cref hG hsz hc=>
  have hb:=r.keep _ _ (r.gk _ _ hG);obtain⟨l1,l2⟩:=run_loadVar' (off:=_) ht hb;simp only[loadV]at hl;split at hl
  ·rename_i ha;simp only[sJ,Prod.mk.injEq,decide_eq_true_eq]at hl;obtain⟨h1,rfl⟩:=hl;refine⟨_,by simp only[Instr.loadAt,Instr.sureAddr,Sem.run_bind,Sem.run_pure,Result.andThen_ok];exact l1 ha (by omega),?_⟩;refine .agg (by simp) fun j hj=> ?_;have hj':j<szOf P t:=by simpa using hj
   rw[getD_ofFn _ _ hj'];have:=(hc j (by omega)).up β;simpa[aG,hj']using this
  ·rename_i ha;simp only[sJ,Prod.mk.injEq,decide_eq_true_eq]at hl;obtain⟨h1,rfl⟩:=hl;exact⟨_,by simp only[Instr.loadAt,Instr.sureAddr,Sem.run_bind,Sem.run_pure,Result.andThen_ok];exact l2 (by simpa using ha) (by omega),(hc 0 h1).up β⟩
 |ref hi=>
  rename_i i rr off hm;simp only[loadV]at hl
  cases hk:h[i]? with
  |none=>rw[hk]at hl;simp at hl
  |some k=>
   rw[hk]at hl;have hB:=r.blk i k hk;rw[hi]at hB
   cases k with
   |cells cs=>
    obtain⟨c,e,hb,hs,hc⟩:=hB;obtain⟨l1,l2⟩:=run_loadVar' (off:=rr*hm.w+off) ht hb;simp only at hl;split at hl
    ·rename_i hr;subst hr;simp only[Nat.zero_mul,Nat.zero_add]at l1 l2⊢;split at hl
     ·rename_i ha;simp only[sJ,Prod.mk.injEq,decide_eq_true_eq]at hl;obtain⟨h1,rfl⟩:=hl;refine⟨_,by simp only[Instr.loadAt,Instr.sureAddr,Sem.run_bind,Sem.run_pure,Result.andThen_ok];exact l1 ha (by omega),?_⟩;refine .agg (by simp;omega) fun j hj=> ?_;have hj':j<szOf P t:=by simp at hj;omega
      have:=hc (off+j) (by omega);simpa[aG,gE,List.getElem?_take,List.getElem?_drop,hj']using this
     ·rename_i ha;simp only[sJ,Prod.mk.injEq,decide_eq_true_eq]at hl;obtain⟨h1,rfl⟩:=hl;exact⟨_,by simp only[Instr.loadAt,Instr.sureAddr,Sem.run_bind,Sem.run_pure,Result.andThen_ok];exact l2 (by simpa using ha) (by omega),hc off h1⟩
    ·cases hl
   |rows e n m cc=>
    obtain⟨hw,hn,hcm,c,hb,hs,hcap,hmx,hc⟩:=hB;subst hw;obtain⟨l1,l2⟩:=run_loadVar' (off:=rr*hm.w+off) ht hb;simp only at hl
    have room:rr<m->rr*hm.w+hm.w<=hm.cap*hm.w:=fun hlt=>by
     have:(rr+1)*hm.w<=hm.cap*hm.w:=Nat.mul_le_mul_right _ (by omega);rw[Nat.succ_mul]at this;exact this
    split at hl
    ·rename_i ha;simp only[sJ,Prod.mk.injEq,Bool.and_eq_true,decide_eq_true_eq]at hl;obtain⟨⟨h1,h2⟩,rfl⟩:=hl;have:=room h1;refine⟨_,by simp only[Instr.loadAt,Instr.sureAddr,Sem.run_bind,Sem.run_pure,Result.andThen_ok];exact l1 ha (by omega),?_⟩;refine .agg (by simp) fun j hj=> ?_;have hj':j<szOf P t:=by simpa using hj
     rw[getD_ofFn _ _ hj'];have:=(hc rr (off+j) h1 (by omega)).up β;simpa[aG,hj',Nat.add_assoc]using this
    ·rename_i ha;simp only[sJ,Prod.mk.injEq,Bool.and_eq_true,decide_eq_true_eq]at hl;obtain⟨⟨h1,h2⟩,rfl⟩:=hl;have:=room h1;exact⟨_,by simp only[Instr.loadAt,Instr.sureAddr,Sem.run_bind,Sem.run_pure,Result.andThen_ok];exact l2 (by simpa using ha) (by omega),(hc rr off h1 h2).up β⟩
   |rowsL e n m cc r0 j0 v=>
    obtain⟨hw,hn,hcm,c,hb,hs,hcap,hmx,hc,h6,h7,h8⟩:=hB;subst hw;obtain⟨l1,l2⟩:=run_loadVar' (off:=rr*hm.w+off) ht hb;simp only at hl;split at hl
    ·cases hl
    ·rename_i ha;simp only[sJ,Prod.mk.injEq,Bool.and_eq_true,decide_eq_true_eq]at hl;obtain⟨⟨rfl,rfl⟩,rfl⟩:=hl
     have room:rr*hm.w+hm.w<=hm.cap*hm.w:=by
      have:(rr+1)*hm.w<=hm.cap*hm.w:=Nat.mul_le_mul_right _ (by omega);rw[Nat.succ_mul]at this;exact this
     exact⟨_,by simp only[Instr.loadAt,Instr.sureAddr,Sem.run_bind,Sem.run_pure,Result.andThen_ok];exact l2 (by simpa using ha) (by omega),h8⟩
   |_=>simp at hl
 |_=>simp[loadV]at hl
def arrOf(P:Program)(t:TypeId):Option (Nat × TypeId):=
 match P.underlying t with
 |some (.array len e)=>some (len,e)
 |_=>none
theorem aggT_arr{P:Program}{t e:TypeId}{len:Nat}(h:arrOf P t=some (len,e)):aggT P t=true:=by
 unfold arrOf at h;unfold aggT;split at h
 ·rename_i hu;rw[hu]
 ·cases h
def loadA(P:Program)(h:List Blk)(t:TypeId)(v:V):Option V:=
 match arrOf P t with
 |some (len,e)=>
  match v with
  |.ref i r off=>
   match h[i]? with
   |some (.rows _ w n c)=>if szOf P e=w/\r=0/\off=0/\len=n/\szOf P t=n*w then some (.arr w n c)else none
   |_=>none
  |_=>none
 |none=>none
theorem loadA_ok{P:Program}{β:Homes}{G K:Kept}{h:List Blk}{w:World}(r:RH β G K h w){t:TypeId}(ht:hasT P t=true){v:V}{x:Value}(hv:Rel G β v x){u:V}(hl:loadA P h t v=some u):
  ∃y,(Instr.loadAt t x).run P w=.ok y w/\Rel G β u y:=by
 unfold loadA at hl;split at hl
 ·rename_i len e ha
  cases hv with
  |ref hi=>
   rename_i i rr off hm;simp only at hl;split at hl
   ·rename_i e' w' n c hk;split at hl
    ·rename_i hc;obtain⟨h1,h2,h3,h4,h5⟩:=hc;subst h2;subst h3;cases hl;have hB:=r.blk i _ hk;rw[hi]at hB;obtain⟨hw,hn,hcm,ca,hb,hs,hcap,hmx,hcc⟩:=hB;subst hw;obtain⟨l1,l2⟩:=run_loadVar' (off:=0) ht hb;have hroom:n*hm.w<=hm.cap*hm.w:=Nat.mul_le_mul_right _ hcap;refine⟨_,by simp only[Instr.loadAt,Instr.sureAddr,Sem.run_bind,Sem.run_pure,Result.andThen_ok,Nat.zero_mul,Nat.add_zero];exact l1 (aggT_arr ha) (by omega),?_⟩
     refine .arr (by simp[h5]) fun a j h6 h7=> ?_
     have hlt:a*hm.w+j<n*hm.w:=by
      have:(a+1)*hm.w<=n*hm.w:=Nat.mul_le_mul_right _ h6;rw[Nat.succ_mul]at this;omega
     have:=hcc a j h6 h7;simpa[aG,h5,hlt]using this
    ·cases hl
   ·cases hl
  |_=>simp at hl
 ·cases hl
theorem Mild.setRow(w:World)(g:Nat)(cs:Array Value):Mild w (w.setRow g cs):=⟨rfl,rfl,rfl,Nat.le_refl _⟩
mutual
def V.under(m:Nat):V->Bool
 |.ref i _ _=>decide (i<m)
 |.row i _=>decide (i<m)
 |.map i=>decide (i<m)
 |.yld i=>decide (i<m)
 |.sub i _ _ _ _=>decide (i<m)
 |.agg vs=>underL m vs
 |.tuple vs=>underL m vs
 |.func _ f c=>underL m f&&underL m c
 |.iface _ v=>v.under m
 |_=>true
def underL(m:Nat):List V->Bool
 |[]=>true
 |v::vs=>v.under m&&underL m vs
end
theorem underL_getD{m:Nat}:∀ {vs:List V} (_:underL m vs=true) (j:Nat),(vs.getD j .undef).under m=true
 |[],_,j=>by simp[V.under]
 |v::vs,h,0=>by simp only[underL,Bool.and_eq_true]at h;simpa using h.1
 |v::vs,h,j+1=>by
  simp only[underL,Bool.and_eq_true]at h;simpa using underL_getD h.2 j
theorem Homes.take_get{β:Homes}{m i:Nat}(h:i<m):(β.take m)[i]? =β[i]? :=List.getElem?_take_of_lt h
theorem Rel.take{G:Kept}{β:Homes}{v:V}{x:Value}(h:Rel G β v x):∀ {m:Nat},v.under m=true->Rel G (β.take m) v x:=by
 induction h with
 |undef x=>intros;exact .undef x
 |bool b=>intros;exact .bool b
 |int k n=>intros;exact .int k n
 |str s=>intros;exact .str s
 |nil=>intros;exact .nil
 |nils=>intros;exact .nils
 |nilfunc=>intros;exact .nilfunc
 |nilmap=>intros;exact .nilmap
 |niliface=>intros;exact .niliface
 |cref g hsz h ih=>intros;exact .cref g hsz h
 |list0=>intros;exact .list0
 |list g hsz hcap hn h ih=>intros;exact .list g hsz hcap hn h
 |ref hi=>intro m hm;simp only[V.under,decide_eq_true_eq]at hm;exact .ref (by rw[Homes.take_get hm];exact hi)
 |row hi hn hc hx=>intro m hm;simp only[V.under,decide_eq_true_eq]at hm;exact .row (by rw[Homes.take_get hm];exact hi) hn hc hx
 |row0 hi=>intro m hm;simp only[V.under,decide_eq_true_eq]at hm;exact .row0 (by rw[Homes.take_get hm];exact hi)
 |map hi=>intro m hm;simp only[V.under,decide_eq_true_eq]at hm;exact .map (by rw[Homes.take_get hm];exact hi)
 |yld hi=>intro m hm;simp only[V.under,decide_eq_true_eq]at hm;exact .yld (by rw[Homes.take_get hm];exact hi)
 |sub hi hc hx=>intro m hm;simp only[V.under,decide_eq_true_eq]at hm;exact .sub (by rw[Homes.take_get hm];exact hi) hc hx
 |sub0=>intros;exact .sub0
 |arr hs h ih=>intros;exact .arr hs h
 |agg hs h ih=>intro m hm;exact .agg hs fun j hj=>ih j hj (underL_getD hm j)
 |tuple hs h ih=>intro m hm;exact .tuple hs fun j hj=>ih j hj (underL_getD hm j)
 |func hf hc h h' ih ih'=>
  intro m hm;simp only[V.under,Bool.and_eq_true]at hm;exact .func hf hc (fun j hj=>ih j hj (underL_getD hm.1 j)) fun j hj=>ih' j hj (underL_getD hm.2 j)
 |iface h ih=>intro m hm;exact .iface (ih hm)
abbrev V.imm(v:V):Bool:=v.under 0
theorem Rel.imm{G:Kept}{β:Homes}{v:V}{x:Value}(h:Rel G β v x)(hv:v.imm=true):Rel G [] v x:=by
 have:=h.take hv;simpa using this
def setCells(cs:List V)(off:Nat):List V->List V
 |[]=>cs
 |v::vs=>setCells (cs.set off v) (off+1) vs
theorem setCells_length(vs:List V):∀(cs:List V) (off:Nat),(setCells cs off vs).length=cs.length:=by
 induction vs with
 |nil=>intros;rfl
 |cons v vs ih=>intro cs off;simp[setCells,ih]
theorem setCells_getD(vs:List V):∀(cs:List V) (off j:Nat),off+vs.length<=cs.length->(setCells cs off vs).getD j .undef=if off<=j/\j<off+vs.length then vs.getD (j-off) .undef else cs.getD j .undef:=by
 induction vs with
 |nil=>intro cs off j h;simp[setCells];omega
 |cons v vs ih=>
  intro cs off j h;simp only[List.length_cons]at h;rw[setCells,ih _ _ _ (by simp;omega)];by_cases h1:off+1<=j/\j<off+1+vs.length
  ·rw[if_pos h1,if_pos ⟨by omega,by simp;omega⟩]
   obtain⟨k,rfl⟩:∃k,j=off+1+k:=⟨j-(off+1),by omega⟩
   rw[show off+1+k-(off+1)=k by omega,show off+1+k-off=k+1 by omega];rfl
  ·rw[if_neg h1];by_cases h2:j=off
   ·subst h2;rw[if_pos ⟨by omega,by simp⟩];simp[gE,show j<cs.length by omega]
   ·rw[if_neg (by simp;omega)];simp[gE,sN (Ne.symm h2)]
def storeV(P:Program)(h:List Blk)(t:TypeId)(a v:V):Option (Bool × List Blk):=
 match a with
 |.ref i r off=>
  match cellsOf P t v with
  |some vs=>
   match h[i]? with
   |some (.cells cs)=>if r=0 then some (decide (off+vs.length<=cs.length),h.set i (.cells (setCells cs off vs)))else none
   |some (.rows e w n c)=>
    some (decide (r<n)&&decide (off+vs.length<=w)&&underL 0 vs,
     h.set i (.rows e w n fun r' j=>if r'=r/\off<=j/\j<off+vs.length then vs.getD (j-off) .undef else c r' j))
   |_=>none
  |none=>none
 |_=>none
theorem run_storeVar'{P:Program}{t:TypeId}{w:World}{b off:Nat}{c:Array Value}{e:TypeId}(ht:hasT P t=true)(h:w.heap[b]? =some (.cells c e (0,0))){x:Value}(hx:x.cells.size=szOf P t)
  (h1:∀y∈x.cells.toList,y.oneCell'=true) (hs:off+x.cells.size<=c.size):
  ∃c',(storeVar t ⟨b,off,none⟩ x).run P w=.ok () (w.setRow b c')/\c'.size=c.size/\∀j,c'.getD j Go.undef=if off<=j/\j<off+x.cells.size then x.cells.getD (j-off) Go.undef else c.getD j Go.undef:=by
 have hr:=run_storeCells_at P b off e x.cells.toList 0 c w h (by simpa using hs) h1;refine⟨_,by simp only[storeVar,Sem.run_bind,run_sizeOf' ht,Result.andThen_ok,hx,ne_eq,not_true_eq_false,if_false,Sem.run_ite,Sem.run_pure];exact hr,by simp;omega,fun j=> ?_⟩;simp only[Nat.add_zero,Array.length_toList,aG,List.getElem?_toArray,List.append_assoc];by_cases hj:off<=j/\j<off+x.cells.size
 ·rw[if_pos hj,List.getElem?_append_right (by simp;omega),aL (by simp;omega)];simp only[List.length_take,Array.length_toList,Array.getElem?_toList];rw[show min off c.size=off by omega]
 ·rw[if_neg hj];by_cases h2:j<off
  ·rw[aL (by simp;omega),List.getElem?_take_of_lt h2,Array.getElem?_toList]
  ·rw[List.getElem?_append_right (by simp;omega),List.getElem?_append_right (by simp;omega),List.getElem?_drop];simp only[List.length_take,Array.length_toList,Array.getElem?_toList];congr 2;omega
theorem store_ok{P:Program}{β:Homes}{G K:Kept}{h h':List Blk}{w:World}(r:RH β G K h w){t:TypeId}(ht:hasT P t=true){a v:V}{x y:Value}(ha:Rel G β a x)(hv:Rel G β v y)
  (hl:storeV P h t a v=some (true,h')):∃w',(Instr.storeAt t x y).run P w=.ok () w'/\RH β G K h' w':=by
 cases ha with
 |ref hi=>
  rename_i i rr off hm;simp only[storeV]at hl
  cases hcv:cellsOf P t v with
  |none=>rw[hcv]at hl;simp at hl
  |some vs=>
   rw[hcv]at hl;obtain⟨c1,c2,c3,c4⟩:=rel_cellsOf hv hcv
   cases hk:h[i]? with
   |none=>rw[hk]at hl;simp at hl
   |some k=>
    rw[hk]at hl;have hB:=r.blk i k hk;rw[hi]at hB
    cases k with
    |cells cs=>
     simp only at hl;obtain⟨c,e,hb,hs,hc⟩:=hB;split at hl
     ·rename_i hr;subst hr;simp only[sJ,Prod.mk.injEq,decide_eq_true_eq]at hl;obtain⟨h1,rfl⟩:=hl;obtain⟨c',s1,s2,s3⟩:=run_storeVar' (P:=P) (off:=off) ht hb (c1.trans c2) c4 (by omega);simp only[Nat.zero_mul,Nat.zero_add];refine⟨_,by simp only[Instr.storeAt,Instr.sureAddr,Sem.run_bind,Sem.run_pure,Result.andThen_ok];exact s1,?_⟩;refine r.write hk (by simp) hi (fun b hb'=>setRow_other w _ _ _ hb') (by simp) ⟨c',e,setRow_heap w _ c c' e _ hb,by rw[s2,hs,setCells_length],fun j hj=> ?_⟩
      rw[setCells_length]at hj;rw[s3,setCells_getD _ _ _ _ h1,c1];split
      ·exact c3 _ (by omega)
      ·exact hc j hj
     ·cases hl
    |rows e n m cc=>
     simp only at hl;obtain⟨hw,hn,hcm,c,hb,hs,hcap,hmx,hc⟩:=hB;subst hw;simp only[sJ,Prod.mk.injEq,Bool.and_eq_true,decide_eq_true_eq]at hl;obtain⟨⟨⟨h1,h2⟩,h3⟩,rfl⟩:=hl
     have room:rr*hm.w+hm.w<=hm.cap*hm.w:=by
      have:(rr+1)*hm.w<=hm.cap*hm.w:=Nat.mul_le_mul_right _ (by omega);rw[Nat.succ_mul]at this;exact this
     obtain⟨c',s1,s2,s3⟩:=run_storeVar' (P:=P) (off:=rr*hm.w+off) ht hb (c1.trans c2) c4 (by omega);refine⟨_,by simp only[Instr.storeAt,Instr.sureAddr,Sem.run_bind,Sem.run_pure,Result.andThen_ok];exact s1,?_⟩;refine r.write hk (by simp) hi (fun b hb'=>setRow_other w _ _ _ hb') (by simp) ⟨rfl,hn,hcm,c',setRow_heap w _ c c' e _ hb,by rw[s2,hs],hcap,hmx,fun r' j hr' hj=> ?_⟩;rw[s3,c1];by_cases hrr:r'=rr
     ·subst hrr;by_cases hjj:off<=j/\j<off+vs.length
      ·simp only[true_and,hjj,and_self,if_true];rw[if_pos (by omega),show r'*hm.w+j-(r'*hm.w+off)=j-off by omega];exact(c3 _ (by omega)).imm (underL_getD h3 _)
      ·simp only[true_and,hjj,if_false];rw[if_neg (by omega)];exact hc r' j hr' hj
     ·simp only[hrr,false_and,if_false];rw[if_neg]
      ·exact hc r' j hr' hj
      ·rintro⟨q1,q2⟩
       rcases Nat.lt_or_gt_of_ne hrr with hlt|hgt
       ·have:(r'+1)*hm.w<=rr*hm.w:=Nat.mul_le_mul_right _ hlt;rw[Nat.succ_mul]at this;omega
       ·have:(rr+1)*hm.w<=r'*hm.w:=Nat.mul_le_mul_right _ hgt;rw[Nat.succ_mul]at this;omega
    |_=>simp at hl
 |_=>simp[storeV]at hl
def cellFn(v:V)(w:Nat)(vs:List V):Nat->Nat->V:=
 match v with
 |.arr w' _ c=>if w'=w then c else fun r j=>vs.getD (r*w+j) .undef
 |_=>fun r j=>vs.getD (r*w+j) .undef
theorem cellFn_ok{P:Program}{G:Kept}{β:Homes}{t:TypeId}{v:V}{x:Value}{vs:List V}{w n:Nat}(hv:Rel G β v x)(hc:cellsOf P t v=some vs)(ha:aggT P t=true)(hl:n*w=vs.length)(hi:underL 0 vs=true):
  ∀r j,r<n->j<w->Rel G [] (cellFn v w vs r j) (x.cells.getD (r*w+j) Go.undef):=fun r j hr hj=>by
 obtain⟨c1,c2,c3,c4⟩:=rel_cellsOf hv hc
 have hlt:r*w+j<vs.length:=by
  have:(r+1)*w<=n*w:=Nat.mul_le_mul_right _ hr;rw[Nat.succ_mul]at this;omega
 have base:Rel G [] (vs.getD (r*w+j) .undef) (x.cells.getD (r*w+j) Go.undef):=(c3 _ hlt).imm (underL_getD hi _);unfold cellFn;split
 ·rename_i w' n' c;split
  ·rename_i hw;subst hw
   cases hv with
   |arr hs hr'=>
    simp only[cellsOf,ha,if_true,V.flat]at hc;split at hc
    ·cases hc;have e:n'*w'=n*w':=by simpa using hl.symm
     have:r<n':=by
      have hw:0<w':=by omega
      have:=Nat.eq_of_mul_eq_mul_right hw e;omega
     exact hr' r j this hj
    ·cases hc
  ·exact base
 ·exact base
def storeA(P:Program)(h:List Blk)(t:TypeId)(a v:V):Option (List Blk):=
 match arrOf P t with
 |some (len,e)=>
  match a with
  |.ref i r off=>
   match h[i]? with
   |some (.rows et w n _)=>
    if szOf P e=w/\r=0/\off=0/\len=n/\szOf P t=n*w then
     match cellsOf P t v with
     |some vs=>if underL 0 vs=true then some (h.set i (.rows et w n (cellFn v w vs)))else none
     |none=>none
    else none
   |_=>none
  |_=>none
 |none=>none
theorem storeA_ok{P:Program}{β:Homes}{G K:Kept}{h h':List Blk}{w:World}(r:RH β G K h w){t:TypeId}(ht:hasT P t=true){a v:V}{x y:Value}(ha:Rel G β a x)(hv:Rel G β v y)
  (hl:storeA P h t a v=some h'):∃w',(Instr.storeAt t x y).run P w=.ok () w'/\RH β G K h' w':=by
 unfold storeA at hl;split at hl
 ·rename_i len e harr
  cases ha with
  |ref hi=>
   rename_i i rr off hm;simp only at hl;split at hl
   ·rename_i et w' n c hk;split at hl
    ·rename_i hc;obtain⟨h1,h2,h3,h4,h5⟩:=hc;subst h2;subst h3;split at hl
     ·rename_i vs hcv;split at hl
      ·rename_i himm;cases hl;obtain⟨c1,c2,c3,c4⟩:=rel_cellsOf hv hcv;have hB:=r.blk i _ hk;rw[hi]at hB;obtain⟨hw,hn,hcm,ca,hb,hs,hcap,hmx,hcc⟩:=hB;subst hw;have hroom:n*hm.w<=hm.cap*hm.w:=Nat.mul_le_mul_right _ hcap;obtain⟨c',s1,s2,s3⟩:=run_storeVar' (P:=P) (off:=0) ht hb (c1.trans c2) c4 (by omega);refine⟨_,by simp only[Instr.storeAt,Instr.sureAddr,Sem.run_bind,Sem.run_pure,Result.andThen_ok,Nat.zero_mul,Nat.add_zero];exact s1,?_⟩
       have key:=cellFn_ok (n:=n) (w:=hm.w) hv hcv (aggT_arr harr) (by omega) himm;refine r.write hk (by simp) hi (fun b hb'=>setRow_other w _ _ _ hb') (by simp) ⟨rfl,hn,hcm,c',setRow_heap w _ ca c' et _ hb,by rw[s2,hs],hcap,hmx,fun r' j hr' hj=> ?_⟩
       have hlt:r'*hm.w+j<n*hm.w:=by
        have:(r'+1)*hm.w<=n*hm.w:=Nat.mul_le_mul_right _ hr';rw[Nat.succ_mul]at this;omega
       rw[s3,if_pos ⟨Nat.zero_le _,by omega⟩,Nat.sub_zero];exact key r' j hr' hj
      ·cases hl
     ·cases hl
    ·cases hl
   ·cases hl
  |_=>simp at hl
 ·cases hl
def newBlk(P:Program)(t:TypeId)(v:V)(vs:List V):Blk × Nat × Nat:=
 match arrOf P t with
 |some (len,e)=>if 0<szOf P e/\len*szOf P e=vs.length/\len<=65536/\underL 0 vs=true then(.rows t (szOf P e) len (cellFn v (szOf P e) vs),szOf P e,len)else(.cells vs,0,0)
 |none=>(.cells vs,0,0)
theorem newBlk_ok{P:Program}{G:Kept}{β β':Homes}{t:TypeId}{v:V}{x:Value}{vs:List V}(w:World)(hv:Rel G β v x)(hc:cellsOf P t v=some vs)(hle:β.le β'):
  BlkOK G β' (w.alloc (.cells x.cells t)) (newBlk P t v vs).1 (.lie ⟨w.heap.size,(newBlk P t v vs).2.1,(newBlk P t v vs).2.2⟩):=by
 obtain⟨c1,c2,c3,c4⟩:=rel_cellsOf hv hc
 have base:BlkOK G β' (w.alloc (.cells x.cells t)) (.cells vs) (.lie ⟨w.heap.size,0,0⟩):=⟨_,_,heap_alloc_new w _,c1,fun j hj=>(c3 j hj).mono (Kept.le_refl _) hle⟩
 unfold newBlk;split
 ·rename_i len e ha;split
  ·rename_i hcond;refine⟨rfl,hcond.1,by unfold maxLen;show len<=_;omega,_,heap_alloc_new w _,by rw[c1];exact hcond.2.1.symm,Nat.le_refl _,by unfold maxn;omega,fun r j hr hj=> ?_⟩;exact cellFn_ok hv hc (aggT_arr ha) hcond.2.1 hcond.2.2.2 r j hr hj
  ·exact base
 ·exact base
theorem box_ok{P:Program}{β:Homes}{G K:Kept}{h:List Blk}{w:World}(r:RH β G K h w){t:TypeId}{v:V}{x:Value}{vs:List V}(hv:Rel G β v x)(hc:cellsOf P t v=some vs):
  RH (β++ [Hm.lie ⟨w.heap.size,(newBlk P t v vs).2.1,(newBlk P t v vs).2.2⟩]) G K (h++ [(newBlk P t v vs).1]) (w.alloc (.cells x.cells t)):=
 r.push rfl (newBlk_ok w hv hc (Homes.le_append _ _))
def inR(k:IntKind)(n:Int):Bool:=decide (k.min<=n)&&decide (n<=k.max)
theorem wrap_inR{k:IntKind}{n:Int}(h:inR k n=true):k.wrap n=n:=by
 simp only[inR,Bool.and_eq_true,decide_eq_true_eq]at h;obtain⟨h1,h2⟩:=h;cases k<;>simp[IntKind.min,IntKind.max,IntKind.signed,IntKind.bits,IntKind.wrap]at* <;>omega
def arith(k:IntKind)(n:Int):Option (Bool × V):=if k.signed then some (inR k n,.int k n)else some (true,.int k (k.wrap n))
def bitsOf(op:BinOp)(k:IntKind)(x y:Int):Int:=
 let a:=BitVec.ofInt k.bits x
 let b:=BitVec.ofInt k.bits y
 match op with
 |.and=>k.wrap (a&&&b).toNat
 |.or=>k.wrap (a|||b).toNat
 |.xor=>k.wrap (a^^^b).toNat
 |_=>k.wrap (a&&& ~~~b).toNat
def partV(P:Program)(t:TypeId)(xs:List V)(off:Nat):Option V:=
 if aggT P t then(if off+szOf P t<=xs.length then some (.agg ((xs.drop off).take (szOf P t)))else none)
 else if off<xs.length then some (xs.getD off .undef)else none
theorem part_ok{P:Program}{G:Kept}{β:Homes}{t:TypeId}(ht:hasT P t=true){xs:List V}{cs:Array Value}(hs:xs.length=cs.size)(h:∀j,j<xs.length->Rel G β (xs.getD j .undef) (cs.getD j Go.undef))
  {off:Nat} {u:V} (hp:partV P t xs off=some u) (w:World):∃y,(part t cs off).run P w=.ok y w/\Rel G β u y:=by
 unfold partV at hp;split at hp
 ·rename_i ha;split at hp
  ·rename_i hl;cases hp;refine⟨_,by simp only[part,Sem.run_bind,run_isAgg' ht,Result.andThen_ok,ha,if_true,run_sizeOf' ht,Sem.run_pure];rfl,?_⟩;refine .agg (by simp;omega) fun j hj=> ?_;have hj':j<szOf P t:=by simp at hj;omega
   have:=h (off+j) (by omega);have e1:off+j<cs.size:=by omega
   simpa[aG,gE,List.getElem?_take,List.getElem?_drop,hj',Array.getElem?_extract,show j<min (off+szOf P t) cs.size-off by omega,show off+j<cs.size by omega]using this
  ·cases hp
 ·rename_i ha;split at hp
  ·rename_i hl;cases hp;have e1:off<cs.size:=by omega
   refine⟨cs.getD off Go.undef,?_,h off hl⟩;have e2:cs[off]? =some (cs.getD off Go.undef):=by simp[aG,e1]
   simp only[part,Sem.run_bind,run_isAgg' ht,Result.andThen_ok,ha,Bool.false_eq_true,if_false,e2,Sem.run_pure]
  ·cases hp
def eqFs(P:Program)(eq:TypeId->V->V->Option Bool):List Field->List V->List V->Option Bool
 |[],_,_=>some true
 |f::fs,xs,ys=>
  if f.name≠ "_" /\hasT P f.type=true then
   match partV P f.type xs f.offset,partV P f.type ys f.offset with
   |some a,some b=>
    match eq f.type a b,eqFs P eq fs xs ys with
    |some p,some q=>some (p&&q)
    |_,_=>none
   |_,_=>none
  else none
def eqEs(P:Program)(eq:TypeId->V->V->Option Bool)(e:TypeId)(n:Nat):List Nat->List V->List V->Option Bool
 |[],_,_=>some true
 |i::is,xs,ys=>
  match partV P e xs (i*n),partV P e ys (i*n)with
  |some a,some b=>
   match eq e a b,eqEs P eq e n is xs ys with
   |some p,some q=>some (p&&q)
   |_,_=>none
  |_,_=>none
def eqV(P:Program):Nat->TypeId->V->V->Option Bool
 |0,_,_,_=>none
 |d+1,t,x,y=>
  match P.underlying t,x,y with
  |some .bool,.bool a,.bool b=>some (a==b)
  |some (.int _),.int k a,.int k' b=>if k=k' then some (a==b)else none
  |some .string,.str a,.str b=>some (a.toList==b.toList)
  |some (.struct fs),.agg xs,.agg ys=>if P.stoodInHeld t=false then eqFs P (eqV P d) fs.toList xs ys else none
  |some (.array len e),.agg xs,.agg ys=>if hasT P e=true then eqEs P (eqV P d) e (szOf P e) (List.range' 0 len) xs ys else none
  |_,_,_=>none
theorem eqFs_ok{P:Program}{G:Kept}{β:Homes}{d D:Nat}(ih:∀t x y x' y' b w,eqV P d t x y=some b->Rel G β x x'->Rel G β y y'->(Op.equalIn D t x' y').run P w=.ok b w)
  {xs ys:List V} {xa ya:Array Value} (hx:xs.length=xa.size) (hy:ys.length=ya.size) (rx:∀j,j<xs.length->Rel G β (xs.getD j .undef) (xa.getD j Go.undef)) (ry:∀j,j<ys.length->Rel G β (ys.getD j .undef) (ya.getD j Go.undef)) (w:World):
  ∀(fs:List Field) (b:Bool),eqFs P (eqV P d) fs xs ys=some b->(Op.eqFields D xa ya fs).run P w=.ok b w:=by
 intro fs
 induction fs with
 |nil=>intro b h;simp only[eqFs,sJ]at h;subst h;simp[Op.eqFields]
 |cons f fs ihf=>
  intro b h;rw[eqFs]at h;split at h
  ·rename_i hn;split at h
   ·rename_i a c ha hc;split at h
    ·rename_i p q hp hq;cases h;obtain⟨a',ha1,ha2⟩:=part_ok hn.2 hx rx ha w;obtain⟨c',hc1,hc2⟩:=part_ok hn.2 hy ry hc w;have e:=ih _ _ _ _ _ _ w hp ha2 hc2;simp only[Op.eqFields,hn.1,ne_eq,not_false_eq_true,if_true,Sem.run_bind,ha1,hc1,e,Result.andThen_ok,Sem.run_ite,Sem.run_pure];cases p
     ·simp
     ·simp[ihf q hq]
    ·cases h
   ·cases h
  ·cases h
theorem eqEs_ok{P:Program}{G:Kept}{β:Homes}{d D:Nat}{e:TypeId}(he:hasT P e=true)(ih:∀t x y x' y' b w,eqV P d t x y=some b->Rel G β x x'->Rel G β y y'->(Op.equalIn D t x' y').run P w=.ok b w)
  {xs ys:List V} {xa ya:Array Value} (hx:xs.length=xa.size) (hy:ys.length=ya.size) (rx:∀j,j<xs.length->Rel G β (xs.getD j .undef) (xa.getD j Go.undef)) (ry:∀j,j<ys.length->Rel G β (ys.getD j .undef) (ya.getD j Go.undef)) (w:World):
  ∀(is:List Nat) (b:Bool),eqEs P (eqV P d) e (szOf P e) is xs ys=some b->
   Sem.run P (do
    let r<-forIn (m:=Sem) is ((none,()):Option Bool × Unit) fun i _=>do
     if !(<-Op.equalIn D e (<-part e xa (i*szOf P e)) (<-part e ya (i*szOf P e)))then pure (ForInStep.done (some false,()))
     else pure (ForInStep.yield (none,()))
    match r.fst with
    |some a=>pure a
    |none=>pure true) w=.ok b w:=by
 intro is
 induction is with
 |nil=>intro b h;simp only[eqEs,sJ]at h;subst h;simp
 |cons i is ihf=>
  intro b h;rw[eqEs]at h;split at h
  ·rename_i a c ha hc;split at h
   ·rename_i p q hp hq;cases h;obtain⟨a',ha1,ha2⟩:=part_ok he hx rx ha w;obtain⟨c',hc1,hc2⟩:=part_ok he hy ry hc w;have e:=ih _ _ _ _ _ _ w hp ha2 hc2;have:=ihf q hq;simp only[List.forIn_cons,Sem.run_bind,ha1,hc1,e,Result.andThen_ok,Sem.run_ite,Sem.run_pure]at this⊢;cases p
    ·simp
    ·simpa using this
   ·cases h
  ·cases h
theorem eqV_ok{P:Program}{G:Kept}{β:Homes}:∀(d D:Nat),d<=D->∀t x y x' y' b w,eqV P d t x y=some b->Rel G β x x'->Rel G β y y'->(Op.equalIn D t x' y').run P w=.ok b w:=by
 intro d
 induction d with
 |zero=>intro D _ t x y x' y' b w h;simp[eqV]at h
 |succ d ih=>
  intro D hD t x y x' y' b w h hx hy
  obtain⟨D,rfl⟩:∃D',D=D'+1:=⟨D-1,by omega⟩
  have hD':d<=D:=by omega
  unfold eqV at h;split at h
  ·rename_i a c hu;cases h;cases hx;cases hy;exact run_equalIn_bool' w D t a c hu
  ·rename_i k0 k a k' c hu;split at h
   ·rename_i hk;subst hk;cases h;cases hx;cases hy;exact run_equalIn_int w D t k k0 a c hu
   ·cases h
  ·rename_i a c hu;cases h;cases hx;cases hy;exact run_equalIn_string w D t a c hu
  ·rename_i fs xs ys hu;split at h
   ·rename_i hp
    cases hx with
    |agg hsx rx=>
     cases hy with
     |agg hsy ry=>
      have hf:P.fieldsOf t=fs:=by simp[Program.fieldsOf,hu]
      rw[run_equalIn_struct w D t _ _ (by rw[hf];exact hu) hp,hf];exact eqFs_ok (ih D hD') hsx hsy rx ry w _ _ h
   ·cases h
  ·rename_i len e xs ys hu;split at h
   ·rename_i he
    cases hx with
    |agg hsx rx=>
     cases hy with
     |agg hsy ry=>
      have:=eqEs_ok he (ih D hD') hsx hsy rx ry w _ _ h;simp only[Op.equalIn,Sem.run_bind,run_underlying' hu,Result.andThen_ok,run_sizeOf' he];rw[Std.Legacy.Range.forIn_eq_forIn_range'];simp[Std.Legacy.Range.size]at this⊢;revert this
      generalize Sem.run P (forIn (List.range' 0 len) _ _) w=X
      cases X with
      |ok a w1=>obtain⟨o,u⟩:=a;cases o<;>exact id
      |halt x w1=>exact id
   ·cases h
  ·cases h
def aggEq(P:Program)(op:BinOp)(t:TypeId)(xs ys:List V):Option (Bool × V):=
 if P.eqGuardType P.depth t=false then
  match eqV P 8 t (.agg xs) (.agg ys)with
  |some b=>(match op with|.eql=>some (true,.bool b)|.neq=>some (true,.bool !b)|_=>none)
  |none=>none
 else none
def evalBin(P:Program)(op:BinOp)(t:TypeId):V->V->Option (Bool × V)
 |.int k a,.int k' b=>
  match op with
  |.shl=>if k.signed then some (decide (0<=b)&&inR k (a*2^(min b.toNat k.bits)),.int k (a*2^(min b.toNat k.bits)))
   else some (decide (0<=b),.int k (k.wrap (a*2^(min b.toNat k.bits))))
  |.shr=>some (decide (0<=b),.int k (a.fdiv (2^(min b.toNat k.bits))))
  |op=>
   if k=k' then
    match op with
    |.add=>arith k (a+b)
    |.sub=>arith k (a-b)
    |.mul=>arith k (a*b)
    |.quo=>some (decide (b≠0)&&inR k (a.tdiv b),.int k (a.tdiv b))
    |.rem=>some (decide (b≠0),.int k (a.tmod b))
    |.and=>some (true,.int k (bitsOf .and k a b))
    |.or=>some (true,.int k (bitsOf .or k a b))
    |.xor=>some (true,.int k (bitsOf .xor k a b))
    |.andNot=>some (true,.int k (bitsOf .andNot k a b))
    |.eql=>some (true,.bool (a==b))
    |.neq=>some (true,.bool (a !=b))
    |.lss=>some (true,.bool (decide (a<b)))
    |.leq=>some (true,.bool (decide (a<=b)))
    |.gtr=>some (true,.bool (decide (a>b)))
    |.geq=>some (true,.bool (decide (a≥b)))
    |_=>none
   else none
 |.str a,.str b=>
  match op with
  |.add=>some (decide (a.size+b.size<=4611686018427387904),.str (a++b))
  |.eql=>some (true,.bool (a.toList==b.toList))
  |.neq=>some (true,.bool !(a.toList==b.toList))
  |.lss=>some (true,.bool (Op.bytesLess a.toList b.toList))
  |.leq=>some (true,.bool (Op.bytesLess a.toList b.toList||a.toList==b.toList))
  |.gtr=>some (true,.bool !(Op.bytesLess a.toList b.toList||a.toList==b.toList))
  |.geq=>some (true,.bool !(Op.bytesLess a.toList b.toList))
  |_=>none
 |.bool a,.bool b=>
  match eqV P 8 t (.bool a) (.bool b)with
  |some b=>(match op with|.eql=>some (true,.bool b)|.neq=>some (true,.bool !b)|_=>none)
  |none=>none
 |a,b=>
  match a.flat,b.flat with
  |some xs,some ys=>aggEq P op t xs ys
  |_,_=>none
theorem bin_int_ok{P:Program}{op:BinOp}{t:TypeId}{k k':IntKind}{a b:Int}{u:V}(h:evalBin P op t (.int k a) (.int k' b)=some (true,u))(w:World):∃z,(binOp op t (.int k a) (.int k' b)).run P w=.ok z w/\∀G β,Rel G β u z:=by
 simp only[evalBin]at h
 have sgn:∀n,arith k n=some (true,u)->u=.int k (k.wrap n):=fun n hh=>by
  unfold arith at hh;split at hh
  ·simp only[sJ,Prod.mk.injEq]at hh;rw[wrap_inR hh.1];exact hh.2.symm
  ·simp only[sJ,Prod.mk.injEq]at hh;exact hh.2.symm
 cases op<;>simp only[]at h
 case shl=>
  split at h
  ·simp only[sJ,Prod.mk.injEq,Bool.and_eq_true,decide_eq_true_eq]at h;obtain⟨⟨h1,h2⟩,rfl⟩:=h;exact⟨_,by simp only[binOp,Op.shift,Int.not_lt.2 h1,if_false,wrap_inR h2,Sem.run_pure],fun _ _=>.int _ _⟩
  ·simp only[sJ,Prod.mk.injEq,decide_eq_true_eq]at h;obtain⟨h1,rfl⟩:=h;exact⟨_,by simp only[binOp,Op.shift,Int.not_lt.2 h1,if_false,Sem.run_pure],fun _ _=>.int _ _⟩
 case shr=>
  simp only[sJ,Prod.mk.injEq,decide_eq_true_eq]at h;obtain⟨h1,rfl⟩:=h;exact⟨_,by simp only[binOp,Op.shift,Int.not_lt.2 h1,if_false,Sem.run_pure],fun _ _=>.int _ _⟩
 all_goals
  split at h
  case isFalse=>cases h
  rename_i hk;subst hk
 case add=>have:=sgn _ h;subst this;exact⟨_,by simp only[binOp,ne_eq,not_true_eq_false,if_false,Op.intArith,Sem.run_pure],fun _ _=>.int _ _⟩
 case sub=>have:=sgn _ h;subst this;exact⟨_,by simp only[binOp,ne_eq,not_true_eq_false,if_false,Op.intArith,Sem.run_pure],fun _ _=>.int _ _⟩
 case mul=>have:=sgn _ h;subst this;exact⟨_,by simp only[binOp,ne_eq,not_true_eq_false,if_false,Op.intArith,Sem.run_pure],fun _ _=>.int _ _⟩
 case quo=>
  simp only[sJ,Prod.mk.injEq,Bool.and_eq_true,decide_eq_true_eq]at h;obtain⟨⟨h1,h2⟩,rfl⟩:=h;exact⟨_,by simp only[binOp,ne_eq,not_true_eq_false,if_false,Op.intDiv,h1,wrap_inR h2,Sem.run_pure],fun _ _=>.int _ _⟩
 case rem=>
  simp only[sJ,Prod.mk.injEq,decide_eq_true_eq]at h;obtain⟨h1,rfl⟩:=h;exact⟨_,by simp only[binOp,ne_eq,not_true_eq_false,if_false,Op.intDiv,h1,Sem.run_pure],fun _ _=>.int _ _⟩
 case and=>
  simp only[sJ,Prod.mk.injEq]at h;obtain⟨_,rfl⟩:=h;exact⟨_,by simp only[binOp,ne_eq,not_true_eq_false,if_false,Op.intBits,Sem.run_pure];rfl,fun _ _=>.int _ _⟩
 case or=>
  simp only[sJ,Prod.mk.injEq]at h;obtain⟨_,rfl⟩:=h;exact⟨_,by simp only[binOp,ne_eq,not_true_eq_false,if_false,Op.intBits,Sem.run_pure];rfl,fun _ _=>.int _ _⟩
 case xor=>
  simp only[sJ,Prod.mk.injEq]at h;obtain⟨_,rfl⟩:=h;exact⟨_,by simp only[binOp,ne_eq,not_true_eq_false,if_false,Op.intBits,Sem.run_pure];rfl,fun _ _=>.int _ _⟩
 case andNot=>
  simp only[sJ,Prod.mk.injEq]at h;obtain⟨_,rfl⟩:=h;exact⟨_,by simp only[binOp,ne_eq,not_true_eq_false,if_false,Op.intBits,Sem.run_pure];rfl,fun _ _=>.int _ _⟩
 case eql=>
  simp only[sJ,Prod.mk.injEq]at h;obtain⟨_,rfl⟩:=h;exact⟨_,by simp only[binOp,ne_eq,not_true_eq_false,if_false,Op.intCmp,Sem.run_pure],fun _ _=>.bool _⟩
 case neq=>
  simp only[sJ,Prod.mk.injEq]at h;obtain⟨_,rfl⟩:=h;exact⟨_,by simp only[binOp,ne_eq,not_true_eq_false,if_false,Op.intCmp,Sem.run_pure],fun _ _=>.bool _⟩
 case lss=>
  simp only[sJ,Prod.mk.injEq]at h;obtain⟨_,rfl⟩:=h;exact⟨_,by simp only[binOp,ne_eq,not_true_eq_false,if_false,Op.intCmp,Sem.run_pure],fun _ _=>.bool _⟩
 case leq=>
  simp only[sJ,Prod.mk.injEq]at h;obtain⟨_,rfl⟩:=h;exact⟨_,by simp only[binOp,ne_eq,not_true_eq_false,if_false,Op.intCmp,Sem.run_pure],fun _ _=>.bool _⟩
 case gtr=>
  simp only[sJ,Prod.mk.injEq]at h;obtain⟨_,rfl⟩:=h;exact⟨_,by simp only[binOp,ne_eq,not_true_eq_false,if_false,Op.intCmp,Sem.run_pure],fun _ _=>.bool _⟩
 case geq=>
  simp only[sJ,Prod.mk.injEq]at h;obtain⟨_,rfl⟩:=h;exact⟨_,by simp only[binOp,ne_eq,not_true_eq_false,if_false,Op.intCmp,Sem.run_pure],fun _ _=>.bool _⟩
theorem bin_str_ok{P:Program}{op:BinOp}{t:TypeId}{a b:ByteArray}{u:V}(h:evalBin P op t (.str a) (.str b)=some (true,u))(w:World):∃z,(binOp op t (.string a) (.string b)).run P w=.ok z w/\∀G β,Rel G β u z:=by
 simp only[evalBin]at h;cases op<;>simp only[]at h
 case add=>
  simp only[sJ,Prod.mk.injEq,decide_eq_true_eq]at h;obtain⟨h1,rfl⟩:=h;have hne:¬(((a.size+b.size:Nat):Int)>IntKind.i64.max):=by simp[IntKind.max,IntKind.signed,IntKind.bits];omega
  exact⟨_,by simp only[binOp,Op.stringOp,hne,if_false,Sem.run_pure],fun _ _=>.str _⟩
 case eql=>
  simp only[sJ,Prod.mk.injEq]at h;obtain⟨_,rfl⟩:=h;exact⟨_,by simp only[binOp,Op.stringOp,Sem.run_pure],fun _ _=>.bool _⟩
 case neq=>
  simp only[sJ,Prod.mk.injEq]at h;obtain⟨_,rfl⟩:=h;exact⟨_,by simp only[binOp,Op.stringOp,Sem.run_pure],fun _ _=>.bool _⟩
 case lss=>
  simp only[sJ,Prod.mk.injEq]at h;obtain⟨_,rfl⟩:=h;exact⟨_,by simp only[binOp,Op.stringOp,Sem.run_pure],fun _ _=>.bool _⟩
 case leq=>
  simp only[sJ,Prod.mk.injEq]at h;obtain⟨_,rfl⟩:=h;exact⟨_,by simp only[binOp,Op.stringOp,Sem.run_pure],fun _ _=>.bool _⟩
 case gtr=>
  simp only[sJ,Prod.mk.injEq]at h;obtain⟨_,rfl⟩:=h;exact⟨_,by simp only[binOp,Op.stringOp,Sem.run_pure],fun _ _=>.bool _⟩
 case geq=>
  simp only[sJ,Prod.mk.injEq]at h;obtain⟨_,rfl⟩:=h;exact⟨_,by simp only[binOp,Op.stringOp,Sem.run_pure],fun _ _=>.bool _⟩
 all_goals cases h
theorem run_eqGuard_int{P:Program}(op:BinOp)(t:TypeId)(ox oy:Operand)(k:IntKind)(n:Int)(y:Value)(w:World):(eqGuard op t ox oy (.int k n) y).run P w=.ok () w:=by
 unfold eqGuard;cases op<;>rfl
theorem run_eqGuard_str{P:Program}(op:BinOp)(t:TypeId)(ox oy:Operand)(s:ByteArray)(y:Value)(w:World):(eqGuard op t ox oy (.string s) y).run P w=.ok () w:=by
 unfold eqGuard;cases op<;>rfl
theorem run_eqGuard_boo{P:Program}(op:BinOp)(t:TypeId)(ox oy:Operand)(b:Bool)(y:Value)(w:World):(eqGuard op t ox oy (.bool b) y).run P w=.ok () w:=by
 unfold eqGuard;cases op<;>rfl
theorem aggEq_ok{P:Program}{G:Kept}{β:Homes}{op:BinOp}{t:TypeId}{us vs:List V}{xs ys:Array Value}{u:V}(h:aggEq P op t us vs=some (true,u))(hs:us.length=xs.size)(hs':vs.length=ys.size)
  (hv:∀j,j<us.length->Rel G β (us.getD j .undef) (xs.getD j Go.undef)) (hv':∀j,j<vs.length->Rel G β (vs.getD j .undef) (ys.getD j Go.undef)) (ox oy:Operand) (w:World):
  ∃z,(do eqGuard op t ox oy (.agg xs) (.agg ys);binOp op t (.agg xs) (.agg ys):Sem Value).run P w=.ok z w/\Rel G β u z:=by
 unfold aggEq at h;split at h
 ·rename_i hg;split at h
  ·rename_i r he;have e:=eqV_ok (G:=G) (β:=β) 8 10000 (by omega) _ _ _ _ _ _ w he (.agg hs hv) (.agg hs' hv');cases op<;>simp only[]at h
   case eql=>simp only[sJ,Prod.mk.injEq,true_and]at h;subst h;exact⟨_,by simp only[Sem.run_bind,run_eqGuard_agg _ _ _ _ _ _ _ hg,Result.andThen_ok,run_eql_struct,e],.bool _⟩
   case neq=>simp only[sJ,Prod.mk.injEq,true_and]at h;subst h;exact⟨_,by simp only[Sem.run_bind,run_eqGuard_agg _ _ _ _ _ _ _ hg,Result.andThen_ok,run_neq_struct,e],.bool _⟩
   all_goals cases h
  ·cases h
 ·cases h
theorem bin_ok{P:Program}{G:Kept}{β:Homes}{op:BinOp}{t:TypeId}{a b u:V}{x y:Value}(h:evalBin P op t a b=some (true,u))(hx:Rel G β a x)(hy:Rel G β b y)(ox oy:Operand)(w:World):
  ∃z,(do eqGuard op t ox oy x y;binOp op t x y:Sem Value).run P w=.ok z w/\Rel G β u z:=by
 cases hx with
 |int k n=>
  cases hy with
  |int k' m=>
   obtain⟨z,h1,h2⟩:=bin_int_ok h w;exact⟨z,by simp only[Sem.run_bind,run_eqGuard_int,Result.andThen_ok,h1],h2 _ _⟩
  |_=>simp[evalBin,V.flat]at h
 |str s=>
  cases hy with
  |str s'=>
   obtain⟨z,h1,h2⟩:=bin_str_ok h w;exact⟨z,by simp only[Sem.run_bind,run_eqGuard_str,Result.andThen_ok,h1],h2 _ _⟩
  |_=>simp[evalBin,V.flat]at h
 |bool p=>
  cases hy with
  |bool q=>
   simp only[evalBin]at h
   cases he:eqV P 8 t (.bool p) (.bool q)with
   |none=>rw[he]at h;cases h
   |some r=>
    rw[he]at h;have e:=eqV_ok (G:=G) (β:=β) 8 10000 (by omega) _ _ _ _ _ _ w he (.bool p) (.bool q);cases op<;>simp only[]at h
    case eql=>simp only[sJ,Prod.mk.injEq,true_and]at h;subst h;exact⟨_,by simp only[Sem.run_bind,run_eqGuard_boo,Result.andThen_ok,binOp,Op.equal,Op.maxDepth,e,Sem.run_pure],.bool _⟩
    case neq=>simp only[sJ,Prod.mk.injEq,true_and]at h;subst h;exact⟨_,by simp only[Sem.run_bind,run_eqGuard_boo,Result.andThen_ok,binOp,Op.equal,Op.maxDepth,e,Sem.run_pure],.bool _⟩
    all_goals cases h
  |_=>simp[evalBin,V.flat]at h
 |agg hs hv=>
  cases hy with
  |agg hs' hv'=>simp only[evalBin,V.flat]at h;exact aggEq_ok h hs hs' hv hv' ox oy w
  |arr hs' hv'=>
   simp only[evalBin,V.flat]at h;obtain⟨xs',e,q1,q2⟩:=(Rel.arr (β:=β) hs' hv').flat rfl;cases e;exact aggEq_ok h hs q1 hv q2 ox oy w
  |_=>simp[evalBin,V.flat]at h
 |arr hs hv=>
  obtain⟨xs',e,q1,q2⟩:=(Rel.arr (β:=β) hs hv).flat rfl;cases e
  cases hy with
  |agg hs' hv'=>simp only[evalBin,V.flat]at h;exact aggEq_ok h q1 hs' q2 hv' ox oy w
  |arr hs' hv'=>
   simp only[evalBin,V.flat]at h;obtain⟨xs',e,q3,q4⟩:=(Rel.arr (β:=β) hs' hv').flat rfl;cases e;exact aggEq_ok h q1 q3 q2 q4 ox oy w
  |_=>simp[evalBin,V.flat]at h
 |_=>simp[evalBin,V.flat]at h
def zeroCs(P:Program)(t:TypeId):Option (List V):=((P.info? t).bind (·.zero)).map fun z=>z.cells.toList.map scalarOf
theorem zeroCs_ok{P:Program}{t:TypeId}{zs:List V}(h:zeroCs P t=some zs)(w:World):
  ∃z,(zeroValue t).run P w=.ok z w/\z.cells.size=zs.length/\∀G β j,Rel G β (zs.getD j .undef) (z.cells.getD j Go.undef):=by
 unfold zeroCs at h
 cases hi:P.info? t with
 |none=>simp[hi]at h
 |some i=>
  cases hz:i.zero with
  |none=>simp[hi,hz]at h
  |some z=>
   simp[hi,hz]at h;subst h;refine⟨z,by simp only[zeroValue,Sem.run_bind,run_typeInfo' hi,Result.andThen_ok,hz,Sem.run_pure],by simp,fun G β j=> ?_⟩;by_cases hj:j<z.cells.size
   ·have:=rel_scalarOf (G:=G) (β:=β) (z.cells.getD j Go.undef);simpa[gE,aG,hj]using this
   ·simp[gE,hj];exact .undef _
def zeq:V->V->Bool
 |.bool a,.bool b=>a==b
 |.int k a,.int k' b=>decide (k=k')&&a==b
 |.str a,.str b=>decide (a=b)
 |.nil,.nil|.nils,.nils|.nilfunc,.nilfunc|.nilmap,.nilmap|.niliface,.niliface|.undef,.undef=>true
 |_,_=>false
theorem zeq_eq{a b:V}(h:zeq a b=true):a=b:=by
 unfold zeq at h;split at h
 ·simp at h;rw[h]
 ·simp at h;rw[h.1,h.2]
 ·simp at h;rw[h]
 all_goals first|rfl|cases h
def zeroBlk(P:Program)(t:TypeId)(zs:List V):Blk × Nat × Nat:=
 match arrOf P t with
 |some (len,e)=>
  match zeroCs P e with
  |some ez=>
   if 0<szOf P e/\len*szOf P e=zs.length/\len<=65536/\(List.range zs.length).all (fun q=>zeq (zs.getD q .undef) (ez.getD (q%szOf P e) .undef))=true then(.rows t (szOf P e) len (fun _ j=>ez.getD j .undef),szOf P e,len)
   else(.cells zs,0,0)
  |none=>(.cells zs,0,0)
 |none=>(.cells zs,0,0)
theorem zeroBlk_ok{P:Program}{G:Kept}{β:Homes}{t:TypeId}{zs:List V}{z:Value}(w:World)(z2:z.cells.size=zs.length)(z3:∀G β j,Rel G β (zs.getD j .undef) (z.cells.getD j Go.undef)):
  BlkOK G β (w.alloc (.cells z.cells t)) (zeroBlk P t zs).1 (.lie ⟨w.heap.size,(zeroBlk P t zs).2.1,(zeroBlk P t zs).2.2⟩):=by
 have base:BlkOK G β (w.alloc (.cells z.cells t)) (.cells zs) (.lie ⟨w.heap.size,0,0⟩):=⟨_,_,heap_alloc_new w _,z2,fun j hj=>z3 _ _ j⟩
 unfold zeroBlk;split
 ·rename_i len e ha;split
  ·rename_i ez hez;split
   ·rename_i hcond;obtain⟨h1,h2,h3,h4⟩:=hcond;refine⟨rfl,h1,by unfold maxLen;show len<=_;omega,_,heap_alloc_new w _,by rw[z2];exact h2.symm,Nat.le_refl _,by unfold maxn;omega,fun r j hr hj=> ?_⟩
    have hlt:r*szOf P e+j<zs.length:=by
     have:(r+1)*szOf P e<=len*szOf P e:=Nat.mul_le_mul_right _ hr;rw[Nat.succ_mul]at this;omega
    have hq:=List.all_eq_true.1 h4 _ (List.mem_range.2 hlt);have hmod:(r*szOf P e+j)%szOf P e=j:=by rw[Nat.mul_comm,Nat.mul_add_mod,Nat.mod_eq_of_lt hj]
    have:=z3 G [] (r*szOf P e+j);rw[zeq_eq hq,hmod]at this;exact this
   ·exact base
  ·exact base
 ·exact base
def fillV(P:Program)(place:Nat->Option (Nat × TypeId)):List V->List (Nat × V)->Option (List V)
 |cs,[]=>some cs
 |cs,(i,v)::rest=>
  match place i with
  |none=>none
  |some (off,t)=>
   match cellsOf P t v with
   |none=>none
   |some vs=>if off+vs.length<=cs.length then fillV P place (setCells cs off vs) rest else none
theorem foldl_set(xs:List Value):∀(k off:Nat) (cs:Array Value),off+k+xs.length<=cs.size->
  ((xs.zipIdx k).foldl (fun cs (c,j)=>cs.setIfInBounds (off+j) c) cs).size=cs.size/\
  ∀j,((xs.zipIdx k).foldl (fun cs (c,j)=>cs.setIfInBounds (off+j) c) cs).getD j Go.undef=if off+k<=j/\j<off+k+xs.length then xs.getD (j-(off+k)) Go.undef else cs.getD j Go.undef:=by
 induction xs with
 |nil=>intro k off cs h;simp;intro j h1 h2;omega
 |cons x xs ih=>
  intro k off cs h;simp only[List.length_cons]at h;obtain⟨h1,h2⟩:=ih (k+1) off (cs.setIfInBounds (off+k) x) (by simp;omega);simp only[List.zipIdx_cons,List.foldl_cons];refine⟨by rw[h1];simp,fun j=> ?_⟩;rw[h2];by_cases c1:off+(k+1)<=j/\j<off+(k+1)+xs.length
  ·rw[if_pos c1,if_pos ⟨by omega,by simp;omega⟩]
   obtain⟨m,rfl⟩:∃m,j=off+(k+1)+m:=⟨j-(off+(k+1)),by omega⟩
   rw[show off+(k+1)+m-(off+(k+1))=m by omega,show off+(k+1)+m-(off+k)=m+1 by omega];rfl
  ·rw[if_neg c1];by_cases c2:j=off+k
   ·subst c2;rw[if_pos ⟨by omega,by simp⟩];simp[aG,show off+k<cs.size by omega]
   ·rw[if_neg (by simp;omega)];simp[aG,Array.getElem?_setIfInBounds_ne (Ne.symm c2)]
theorem fill_ok{P:Program}{G:Kept}{β:Homes}{place:Nat->Option (Nat × TypeId)}{place':Nat->Option (Nat × Nat)}(hp:∀i off t,place i=some (off,t)->place' i=some (off,szOf P t)):
  ∀(vs:List (Nat × V)) (xs:List (Nat × Value)) (cs:List V) (ca:Array Value) (r:List V),vs.length=xs.length->(∀j,j<vs.length->(vs.getD j (0,.undef)).1=(xs.getD j (0,Go.undef)).1/\Rel G β (vs.getD j (0,.undef)).2 (xs.getD j (0,Go.undef)).2)->
   cs.length=ca.size->(∀j,Rel G β (cs.getD j .undef) (ca.getD j Go.undef))->fillV P place cs vs=some r->
   ∃ra,Instr.fill place' ca xs=some ra/\r.length=ra.size/\∀j,Rel G β (r.getD j .undef) (ra.getD j Go.undef):=by
 intro vs
 induction vs with
 |nil=>
  intro xs cs ca r hl _ hs hc h
  cases xs with
  |nil=>simp only[fillV,sJ]at h;subst h;exact⟨ca,rfl,hs,hc⟩
  |cons _ _=>simp at hl
 |cons v vs ih=>
  intro xs cs ca r hl hr hs hc h
  cases xs with
  |nil=>simp at hl
  |cons x xs=>
   obtain⟨i,v⟩:=v;obtain⟨i',x⟩:=x;have h0:=hr 0 (by simp);simp at h0;obtain⟨rfl,hvx⟩:=h0;simp only[fillV]at h;split at h
   ·cases h
   ·rename_i off t hpl;split at h
    ·cases h
    ·rename_i us hus;split at h
     ·rename_i hroom;obtain⟨c1,c2,c3,c4⟩:=rel_cellsOf hvx hus;have hpl':=hp i off t hpl;obtain⟨f1,f2⟩:=foldl_set x.cells.toList 0 off ca (by simp;omega);have hz:x.cells.zipIdx=(x.cells.toList.zipIdx 0).toArray:=by apply Array.ext';simp
      have hfold:(x.cells.zipIdx.foldl (fun cs (c,j)=>cs.setIfInBounds (off+j) c) ca)=((x.cells.toList.zipIdx 0).foldl (fun cs (c,j)=>cs.setIfInBounds (off+j) c) ca):=by
       rw[hz];simp
      simp only[Instr.fill,hpl'];have hcond:¬(decide (x.cells.size≠szOf P t)||decide (off+x.cells.size>ca.size))=true:=by simp;omega
      rw[if_neg hcond,hfold];refine ih xs (setCells cs off us) _ r (by simpa using hl) (fun j hj=> ?_) (by rw[setCells_length,f1];exact hs) (fun j=> ?_) h
      ·have:=hr (j+1) (by simpa using hj);simpa using this
      ·rw[f2,setCells_getD _ _ _ _ hroom];simp only[Nat.add_zero,Array.length_toList,c1];split
       ·have:=c3 (j-off) (by omega);simpa[aG,gE]using this
       ·exact hc j
     ·cases h
def shiftA(n k:Nat):V->Option (Bool × V)
 |.cref m c=>some (decide (k+n<=m),.cref (m-k) fun j=>c (j+k))
 |.ref i r off=>some (true,.ref i r (off+k))
 |_=>none
theorem shiftA_ok{G:Kept}{β:Homes}{n k:Nat}{v u:V}{x:Value}(h:Rel G β v x)(hs:shiftA n k v=some (true,u)):∃a:Addr,x=.pointer (some a)/\a.spot=none/\Rel G β u (.pointer (some (a.add k))):=by
 cases h with
 |cref hG hsz hc=>
  rename_i off _ _ _;simp only[shiftA,sJ,Prod.mk.injEq,decide_eq_true_eq]at hs;obtain⟨h1,rfl⟩:=hs;refine⟨_,rfl,rfl,?_⟩;rw[addr_add];exact .cref hG (by omega) fun j hj=>by have:=hc (j+k) (by omega);rwa[show off+(j+k)=off+k+j by omega]at this
 |ref hi=>
  simp only[shiftA,sJ,Prod.mk.injEq,true_and]at hs;subst hs;refine⟨_,rfl,rfl,?_⟩;rw[addr_add,Nat.add_assoc];exact .ref hi
 |_=>simp[shiftA]at hs
def fieldAddrV(P:Program)(s:TypeId)(a:V)(f:Nat):Option (Bool × V):=
 match P.underlying s with
 |some (.struct fs)=>
  match fs[f]? with
  |some fd=>if hasT P fd.type=true/\szOf P fd.type≠0 then shiftA (szOf P fd.type) fd.offset a else none
  |none=>none
 |_=>none
theorem fieldAddr_ok{P:Program}{G:Kept}{β:Homes}{s:TypeId}{a u:V}{x:Value}{f:Nat}(h:Rel G β a x)(hs:fieldAddrV P s a f=some (true,u))(w:World):∃y,(Instr.fieldAt s x f).run P w=.ok y w/\Rel G β u y:=by
 unfold fieldAddrV at hs;split at hs
 ·rename_i fs hu;split at hs
  ·rename_i fd hf;split at hs
   ·rename_i hz;obtain⟨b,rfl,_,hb⟩:=shiftA_ok h hs;refine⟨_,?_,hb⟩;simp only[Instr.fieldAt,Sem.run_bind,run_underlying' hu,Result.andThen_ok,hf,Instr.sureAddr,Sem.run_pure,fieldPlace,run_sizeOf' hz.1,hz.2,if_false]
   ·cases hs
  ·cases hs
 ·cases hs
def rowsAt(h:List Blk)(sz:Nat):V->Option Nat
 |.ref b r off=>
  match h[b]? with
  |some (.rows _ w _ _)=>if sz=w/\r=0/\off=0 then some b else none
  |_=>none
 |_=>none
def there(h:List Blk):V->Bool
 |.ref b _ _=>decide (b<h.length)
 |_=>true
def indexAddrV(P:Program)(h:List Blk)(t:TypeId)(x i:V):Option (Bool × V):=
 match P.underlying t,x,i with
 |some (.slice e),.list w n c,.int _ j=>if hasT P e=true/\szOf P e=w then some (decide (0<=j)&&decide (j<(n:Int)),.cref w fun q=>c j.toNat q)else none
 |some (.slice e),.row b n,.int _ j=>
  match h[b]? with
  |some (.rows _ w m _)=>if hasT P e=true/\szOf P e=w then some (decide (0<=j)&&decide (j<(n:Int))&&decide (n<=m),.ref b j.toNat 0)else none
  |some (.rowsL _ w m _ _ _ _)=>if hasT P e=true/\szOf P e=w then some (decide (0<=j)&&decide (j<(n:Int))&&decide (n<=m),.ref b j.toNat 0)else none
  |_=>none
 |some (.array len e),a,.int _ j=>
  if hasT P e=true/\there h a=true then
   match rowsAt h (szOf P e) a with
   |some b=>some (decide (0<=j)&&decide (j<(len:Int)),.ref b j.toNat 0)
   |none=>
    match shiftA (szOf P e) (j.toNat*szOf P e) a with
    |some (ob,u)=>some (decide (0<=j)&&decide (j<(len:Int))&&ob,u)
    |none=>none
  else none
 |_,_,_=>none
theorem indexAddr_ok{P:Program}{β:Homes}{G K:Kept}{h:List Blk}{w:World}(r:RH β G K h w){t:TypeId}{x i u:V}{x' i':Value}(hx:Rel G β x x')(hi:Rel G β i i')(hs:indexAddrV P h t x i=some (true,u)):
  ∃y,(Instr.indexAt t x' i').run P w=.ok y w/\Rel G β u y:=by
 unfold indexAddrV at hs;split at hs
 ·rename_i e w' n c k j hu;split at hs
  ·rename_i he;simp only[sJ,Prod.mk.injEq,Bool.and_eq_true,decide_eq_true_eq]at hs;obtain⟨⟨h1,h2⟩,rfl⟩:=hs;obtain⟨j,rfl⟩:=Int.eq_ofNat_of_zero_le h1;cases hi
   cases hx with
   |list0=>simp at h2;omega
   |list hG hsz hcap hn hc=>
    rename_i b0 off0 cap0 cs0 e0 fz0;have hj:j<n:=by omega
    have hmul:j*w'+w'<=n*w':=by have:(j+1)*w'<=n*w':=Nat.mul_le_mul_right _ hj;rwa[Nat.succ_mul]at this
    refine⟨_,?_,.cref hG (off:=off0+j*w') (by omega) fun q hq=>by have:=hc j q hj hq;simpa[Nat.add_assoc]using this⟩;simp only[Instr.indexAt,Sem.run_bind,asIntOf,Sem.run_pure,Result.andThen_ok,run_underlying' hu,h1,h2,and_self,if_true,run_sizeOf' he.1,he.2,Int.toNat_natCast,addr_add]
  ·cases hs
 ·rename_i e b n k j hu;split at hs
  ·rename_i e' w' m c hb;split at hs
   ·rename_i he;simp only[sJ,Prod.mk.injEq,Bool.and_eq_true,decide_eq_true_eq]at hs;obtain⟨⟨⟨h1,h2⟩,h3⟩,rfl⟩:=hs;obtain⟨j,rfl⟩:=Int.eq_ofNat_of_zero_le h1;cases hi;have hB:=r.blk b _ hb
    cases hx with
    |row0 hi=>simp at h2;omega
    |row hi hn hcc hm=>
     rename_i hm';rw[hi]at hB;obtain⟨hw,-⟩:=hB;refine⟨_,?_,.ref (r:=j) (off:=0) hi⟩;simp only[Instr.indexAt,Sem.run_bind,asIntOf,Sem.run_pure,Result.andThen_ok,run_underlying' hu,h1,h2,and_self,if_true,run_sizeOf' he.1,he.2,Int.toNat_natCast,addr_add,Nat.zero_add,Nat.add_zero,hw]
   ·cases hs
  ·rename_i e' w' m c r0 j0 v0 hb;split at hs
   ·rename_i he;simp only[sJ,Prod.mk.injEq,Bool.and_eq_true,decide_eq_true_eq]at hs;obtain⟨⟨⟨h1,h2⟩,h3⟩,rfl⟩:=hs;obtain⟨j,rfl⟩:=Int.eq_ofNat_of_zero_le h1;cases hi;have hB:=r.blk b _ hb
    cases hx with
    |row0 hi=>simp at h2;omega
    |row hi hn hcc hm=>
     rename_i hm';rw[hi]at hB;obtain⟨hw,-⟩:=hB;refine⟨_,?_,.ref (r:=j) (off:=0) hi⟩;simp only[Instr.indexAt,Sem.run_bind,asIntOf,Sem.run_pure,Result.andThen_ok,run_underlying' hu,h1,h2,and_self,if_true,run_sizeOf' he.1,he.2,Int.toNat_natCast,addr_add,Nat.zero_add,Nat.add_zero,hw]
   ·cases hs
  ·cases hs
 ·rename_i len e k j hu;split at hs
  ·rename_i he;obtain⟨he,-⟩:=he;split at hs
   ·rename_i b hra;simp only[sJ,Prod.mk.injEq,Bool.and_eq_true,decide_eq_true_eq]at hs;obtain⟨⟨h1,h2⟩,rfl⟩:=hs;cases hi;unfold rowsAt at hra;split at hra
    ·rename_i b' r' off';split at hra
     ·rename_i et w' m c hb;split at hra
      ·rename_i hc;obtain⟨q1,q2,q3⟩:=hc;subst q2;subst q3;cases hra;have hB:=r.blk _ _ hb
       cases hx with
       |ref hi=>
        rw[hi]at hB;obtain⟨hw,-⟩:=hB;refine⟨_,?_,.ref (r:=j.toNat) (off:=0) hi⟩;simp only[Instr.indexAt,Sem.run_bind,asIntOf,Sem.run_pure,Result.andThen_ok,run_underlying' hu,Instr.sureAddr,h1,h2,and_self,if_true,run_sizeOf' he,addr_add,Nat.zero_mul,Nat.zero_add,Nat.add_zero,hw,q1]
      ·cases hra
     ·cases hra
    ·cases hra
   split at hs
   ·rename_i ob v hsh;simp only[sJ,Prod.mk.injEq,Bool.and_eq_true,decide_eq_true_eq]at hs;obtain⟨⟨⟨h1,h2⟩,rfl⟩,rfl⟩:=hs;obtain⟨a,rfl,ha,hr⟩:=shiftA_ok hx hsh;cases hi;refine⟨_,?_,hr⟩;simp only[Instr.indexAt,Sem.run_bind,asIntOf,Sem.run_pure,Result.andThen_ok,run_underlying' hu,Instr.sureAddr,h1,h2,and_self,if_true,run_sizeOf' he]
   ·cases hs
  ·cases hs
 ·cases hs
def fieldV(P:Program)(t:TypeId)(x:V)(f:Nat):Option V:=
 match P.underlying t,x with
 |some (.struct fs),.agg xs=>
  match fs[f]? with
  |some fd=>if hasT P fd.type=true then partV P fd.type xs fd.offset else none
  |none=>none
 |_,_=>none
theorem field_ok{P:Program}{G:Kept}{β:Homes}{t:TypeId}{x u:V}{x':Value}{f:Nat}(h:Rel G β x x')(hs:fieldV P t x f=some u)(w:World):∃y,(Instr.field t x' f).run P w=.ok y w/\Rel G β u y:=by
 unfold fieldV at hs;split at hs
 ·rename_i fs xs hu;split at hs
  ·rename_i fd hf;split at hs
   ·rename_i he
    cases h with
    |agg hl hr=>
     obtain⟨y,h1,h2⟩:=part_ok he hl hr hs w;exact⟨y,by simp only[Instr.field,Sem.run_bind,run_underlying' hu,Result.andThen_ok,hf,asAgg,Sem.run_pure,h1],h2⟩
   ·cases hs
  ·cases hs
 ·cases hs
def indexV(P:Program)(t:TypeId)(x i:V):Option (Bool × V):=
 match P.underlying t,x,i with
 |some (.array len e),.agg xs,.int _ j=>
  if hasT P e=true then
   match partV P e xs (j.toNat*szOf P e)with
   |some u=>some (decide (0<=j)&&decide (j<(len:Int)),u)
   |none=>none
  else none
 |some (.array len e),.arr w n c,.int _ j=>
  if hasT P e=true/\szOf P e=w/\n=len then
   if aggT P e=true then some (decide (0<=j)&&decide (j<(len:Int)),.agg ((List.range w).map (c j.toNat)))
   else if 0<w then some (decide (0<=j)&&decide (j<(len:Int)),c j.toNat 0)else none
  else none
 |some .string,.str s,.int _ j=>some (decide (0<=j)&&decide (j<(s.size:Int)),.int .u8 (s.data.getD j.toNat 0).toNat)
 |_,_,_=>none
theorem index_ok{P:Program}{G:Kept}{β:Homes}{t:TypeId}{x i u:V}{x' i':Value}(hx:Rel G β x x')(hi:Rel G β i i')(hs:indexV P t x i=some (true,u))(w:World):∃y,(Instr.index t x' i').run P w=.ok y w/\Rel G β u y:=by
 unfold indexV at hs;split at hs
 ·rename_i len e xs k j hu;split at hs
  ·rename_i he;split at hs
   ·rename_i v hp;simp only[sJ,Prod.mk.injEq,Bool.and_eq_true,decide_eq_true_eq]at hs;obtain⟨⟨h1,h2⟩,rfl⟩:=hs;cases hi
    cases hx with
    |agg hl hr=>
     obtain⟨y,q1,q2⟩:=part_ok he hl hr hp w;exact⟨y,by simp only[Instr.index,Sem.run_bind,asIntOf,Sem.run_pure,Result.andThen_ok,run_underlying' hu,h1,h2,and_self,if_true,run_sizeOf' he,q1],q2⟩
   ·cases hs
  ·cases hs
 ·rename_i len e w' n c k j hu;split at hs
  ·rename_i hc;obtain⟨he,hw,hn⟩:=hc;subst hn
   have main:∀u,(decide (0<=j)&&decide (j<(n:Int)))=true->(if aggT P e=true then V.agg ((List.range w').map (c j.toNat))else c j.toNat 0)=u->(aggT P e=false->0<w')->∃y,(Instr.index t x' i').run P w=.ok y w/\Rel G β u y:=fun u hb hu' h0=>by
    simp only[Bool.and_eq_true,decide_eq_true_eq]at hb;obtain⟨h1,h2⟩:=hb;obtain⟨j,rfl⟩:=Int.eq_ofNat_of_zero_le h1;have hj:j<n:=by omega
    cases hi
    cases hx with
    |arr hl hr=>
     rename_i xs;subst hu';have hroom:j*w'+w'<=n*w':=by have:(j+1)*w'<=n*w':=Nat.mul_le_mul_right _ hj;rwa[Nat.succ_mul]at this
     simp only[Instr.index,Sem.run_bind,asIntOf,Sem.run_pure,Result.andThen_ok,run_underlying' hu,h1,h2,and_self,if_true,run_sizeOf' he,Int.toNat_natCast];by_cases ha:aggT P e=true
     ·refine⟨_,by simp only[part,Sem.run_bind,run_isAgg' he,Result.andThen_ok,ha,if_true,run_sizeOf' he,Sem.run_pure];rfl,?_⟩;rw[if_pos ha];refine .agg (by rw[hw];simp;omega) fun q hq=> ?_;have hq':q<w':=by simpa using hq
      rw[getD_ofFn _ _ hq'];have:=(hr j q hj hq').up β;simpa[aG,Array.getElem?_extract,hw,show q<min (j*w'+w') xs.size-j*w' by omega,show j*w'+q<xs.size by omega]using this
     ·have ha':aggT P e=false:=by simpa using ha
      have:=(hr j 0 hj (h0 ha')).up β;rw[if_neg ha];have hlt:j*w'+0<xs.size:=by have:=h0 ha';omega
      have e2:xs[j*szOf P e]? =some (xs.getD (j*w'+0) Go.undef):=by rw[hw];simp[aG,show j*w'<xs.size by omega]
      refine⟨_,by simp only[part,Sem.run_bind,run_isAgg' he,Result.andThen_ok,ha',Bool.false_eq_true,if_false,e2,Sem.run_pure],this⟩
   split at hs
   ·rename_i ha;simp only[sJ,Prod.mk.injEq]at hs;exact main u hs.1 (by rw[if_pos ha];exact hs.2) (fun h=>by rw[ha]at h;cases h)
   ·rename_i ha;split at hs
    ·rename_i h0;simp only[sJ,Prod.mk.injEq]at hs;exact main u hs.1 (by rw[if_neg ha];exact hs.2) (fun _=>h0)
    ·cases hs
  ·cases hs
 ·rename_i s k j hu;simp only[sJ,Prod.mk.injEq,Bool.and_eq_true,decide_eq_true_eq]at hs;obtain⟨⟨h1,h2⟩,rfl⟩:=hs;obtain⟨j,rfl⟩:=Int.eq_ofNat_of_zero_le h1;have hj:j<s.size:=by omega
  have hj':j<s.data.size:=hj;cases hi;cases hx;refine⟨_,?_,.int _ _⟩
  have hb:s[j]? =some (s.data.getD j 0):=by
   rw[getElem?_pos s j hj];simp only[aG,Array.getElem?_eq_getElem hj'];rfl
  simp only[Instr.index,Sem.run_bind,asIntOf,Sem.run_pure,Result.andThen_ok,run_underlying' hu,h1,if_true,Int.toNat_natCast,hb]
 ·cases hs
end Ab
