/-
  Part of the proof of the Head laws. Conditions: those that stand in each theorem.
-/
import Derived.Shelf.Small.Bits
import Derived.Shelf.Small.Wraps
import Derived.Shelf.Strconv.Itoa0
import Derived.Shelf.Sort.Plain
import Derived.Shelf.Slices.Turned
import Derived.Shelf.Slices.CompactS
import Derived.Ground.Names2Prog
import Derived.Shelf.Slices.SearchI
import Derived.Shelf.Slices.Cells
import Derived.Shelf.Slices.In.SortNone
import Derived.Test.YtemgodefhcbleaaGreatProg
import Derived.Sort.Grow
import Derived.Lib.SlicesCompact
import Derived.Test.YtemgodefhcbleaaGreatB07
set_option linter.unusedSimpArgs false
set_option linter.unusedVariables false
set_option maxRecDepth 100000
namespace Go.Proofs
open Go.Shelf
def Tryz.lays190_ren:Go.Shelf.Ren:=⟨fun|190=>82|125=>114|258=>113|128=>139|129=>140|302=>130|303=>131|304=>132|305=>133|306=>134|307=>135|308=>136|309=>137|310=>138|333=>143|329=>144|330=>145|334=>146|335=>147|336=>148|344=>157|n=>n,fun|31=>23|9=>9|3=>3|46=>165|0=>0|51=>178|53=>180|4=>4|183=>183|182=>182|131=>188|5=>5|218=>191|222=>195|228=>202|229=>203|n=>n,fun|n=>n⟩
theorem Tryz.lays190:Go.Proofs.Lays.n190 Tryz.prog Tryz.lays190_ren:={
 mixed:=by kernel_rfl
 f125:=Tryz.func114.trans (congrArg some (by kernel_rfl))
 f128:=Tryz.func139.trans (congrArg some (by kernel_rfl))
 f129:=Tryz.func140.trans (congrArg some (by kernel_rfl))
 f190:=Tryz.func82.trans (congrArg some (by kernel_rfl))
 f258:=Tryz.func113.trans (congrArg some (by kernel_rfl))
 f302:=Tryz.func130.trans (congrArg some (by kernel_rfl))
 f303:=Tryz.func131.trans (congrArg some (by kernel_rfl))
 f304:=Tryz.func132.trans (congrArg some (by kernel_rfl))
 f305:=Tryz.func133.trans (congrArg some (by kernel_rfl))
 f306:=Tryz.func134.trans (congrArg some (by kernel_rfl))
 f307:=Tryz.func135.trans (congrArg some (by kernel_rfl))
 f308:=Tryz.func136.trans (congrArg some (by kernel_rfl))
 f309:=Tryz.func137.trans (congrArg some (by kernel_rfl))
 f310:=Tryz.func138.trans (congrArg some (by kernel_rfl))
 f329:=Tryz.func144.trans (congrArg some (by kernel_rfl))
 f330:=Tryz.func145.trans (congrArg some (by kernel_rfl))
 f333:=Tryz.func143.trans (congrArg some (by kernel_rfl))
 f334:=Tryz.func146.trans (congrArg some (by kernel_rfl))
 f335:=Tryz.func147.trans (congrArg some (by kernel_rfl))
 f336:=Tryz.func148.trans (congrArg some (by kernel_rfl))
 f344:=Tryz.func157.trans (congrArg some (by kernel_rfl))
 t0:=Tryz.underlying0
 a0:=Tryz.isAgg0
 z0:=Tryz.sizeOf0
 v0:=Tryz.zeroValue0
 t3:=Tryz.underlying3
 a3:=Tryz.isAgg3
 z3:=Tryz.sizeOf3
 v3:=Tryz.zeroValue3
 t4:=Tryz.underlying4
 a4:=Tryz.isAgg4
 z4:=Tryz.sizeOf4
 v4:=Tryz.zeroValue4
 t5:=Tryz.underlying5
 a5:=Tryz.isAgg5
 z5:=Tryz.sizeOf5
 v5:=Tryz.zeroValue5
 t9:=Tryz.underlying9
 a9:=Tryz.isAgg9
 z9:=Tryz.sizeOf9
 v9:=Tryz.zeroValue9
 t31:=Tryz.underlying23
 a31:=Tryz.isAgg23
 z31:=Tryz.sizeOf23
 v31:=Tryz.zeroValue23
 t46:=Tryz.underlying165
 a46:=Tryz.isAgg165
 z46:=Tryz.sizeOf165
 v46:=Tryz.zeroValue165
 t51:=Tryz.underlying178
 a51:=Tryz.isAgg178
 z51:=Tryz.sizeOf178
 v51:=Tryz.zeroValue178
 t53:=Tryz.underlying180
 a53:=Tryz.isAgg180
 z53:=Tryz.sizeOf180
 v53:=Tryz.zeroValue180
 t131:=Tryz.underlying188
 a131:=Tryz.isAgg188
 z131:=Tryz.sizeOf188
 v131:=Tryz.zeroValue188
 t182:=Tryz.underlying182
 a182:=Tryz.isAgg182
 z182:=Tryz.sizeOf182
 v182:=Tryz.zeroValue182
 t183:=Tryz.underlying183
 a183:=Tryz.isAgg183
 z183:=Tryz.sizeOf183
 v183:=Tryz.zeroValue183
 t218:=Tryz.underlying191
 a218:=Tryz.isAgg191
 z218:=Tryz.sizeOf191
 v218:=Tryz.zeroValue191
 t222:=Tryz.underlying195
 a222:=Tryz.isAgg195
 z222:=Tryz.sizeOf195
 v222:=Tryz.zeroValue195
 t228:=Tryz.underlying202
 a228:=Tryz.isAgg202
 z228:=Tryz.sizeOf202
 v228:=Tryz.zeroValue202
 t229:=Tryz.underlying203
 a229:=Tryz.isAgg203
 z229:=Tryz.sizeOf203
 v229:=Tryz.zeroValue203}
open Go.Sort Go.RowKit in
theorem Tryz.slices_Sort_string(blk off cap:Nat)(ss:List (List UInt8))(w:World)(hH:Holds encStr w blk off ss.toArray)(hblk:blk<w.heap.size)(hsz:ss.length<4611686018427387904):
  Calls Tryz.prog 82 #[.slice (some ⟨blk,off,none⟩) ss.length cap] w fun e w'=>
   e=.returned (.tuple #[])/\∃n os,w'=grow (putRow encStr (Sort.ahead w n) blk off (ss.mergeSort fun x y=>decide (x<=y)).toArray) os:=Any.slices_Sort_string Tryz.lays190 blk off cap ss w hH hblk hsz
def Tryz.lays194_ren:Go.Shelf.Ren:=⟨fun|194=>83|n=>n,fun|31=>23|9=>9|3=>3|4=>4|0=>0|n=>n,fun|n=>n⟩
theorem Tryz.lays194:Go.Proofs.Lays.n194 Tryz.prog Tryz.lays194_ren:={
 mixed:=by kernel_rfl
 f194:=Tryz.func83.trans (congrArg some (by kernel_rfl))
 t0:=Tryz.underlying0
 a0:=Tryz.isAgg0
 z0:=Tryz.sizeOf0
 v0:=Tryz.zeroValue0
 t3:=Tryz.underlying3
 a3:=Tryz.isAgg3
 z3:=Tryz.sizeOf3
 v3:=Tryz.zeroValue3
 t4:=Tryz.underlying4
 a4:=Tryz.isAgg4
 z4:=Tryz.sizeOf4
 v4:=Tryz.zeroValue4
 t9:=Tryz.underlying9
 a9:=Tryz.isAgg9
 z9:=Tryz.sizeOf9
 v9:=Tryz.zeroValue9
 t31:=Tryz.underlying23
 a31:=Tryz.isAgg23
 z31:=Tryz.sizeOf23
 v31:=Tryz.zeroValue23}
open Go.RowKit Go.Lib Go.Sort in
theorem Tryz.slices_Compact_string(blk off cap:Nat)(zs:List (List UInt8))(w:World)(hH:Holds encStr w blk off zs.toArray)(hsz:zs.length<=9223372036854775807)(hcap:zs.length<=cap):
  Calls Tryz.prog 83 #[.slice (some ⟨blk,off,none⟩) zs.length cap] w fun e w'=>e=.returned (.slice (some ⟨blk,off,none⟩) (Lib.compact zs).length cap)/\∃q,w'=putRow encStr (Sort.ahead w q) blk off (Lib.compact zs++List.replicate (zs.length-(Lib.compact zs).length) []).toArray:=Any.slices_Compact_string Tryz.lays194 blk off cap zs w hH hsz hcap
open Go.RowKit Go.Lib Go.Sort in
theorem Tryz.slices_Compact_string_empty(a:Option Addr)(cap:Nat)(w:World):
  Calls Tryz.prog 83 #[.slice a 0 cap] w fun e w'=>e=.returned (.slice a 0 cap)/\w'=w:=Any.slices_Compact_string_empty Tryz.lays194 a cap w
open Go.RowKit Go.Sort in
theorem Tryz.slices_Sort_string_none(p:Option Addr)(cap:Nat)(w:World):
  Calls Tryz.prog 82 #[.slice p 0 cap] w fun e w'=>e=.returned (.tuple #[])/\w'=w:=Any.slices_Sort_string_none Tryz.lays190 p cap w
end Go.Proofs
namespace Ab
open Go Go.Sort
theorem slice_inv{G:Kept}{β:Homes}{i n:Nat}{v:Value}(h:Rel G β (.row i n) v):(∃(x:Home) (cap:Nat),β[i]? =some (.lie x)/\v=.slice (some ⟨x.b,0,none⟩) n cap/\n<=cap/\cap<=x.cap)\/(n=0/\β[i]? =some .nil/\∃a,v=.slice a 0 0):=by
 cases h with
 |row hi hn hc hm=>exact .inl ⟨_,_,hi,rfl,hn,hc⟩
 |row0 hi=>exact .inr ⟨rfl,hi,_,rfl⟩
section
variable {P:Program} {f:FuncId} {e:TypeId} {i:Nat} {l:List Int} {c c':Nat->Nat->V} {h:List Blk}
theorem arg1{xs:Array Value}{β:Homes}{G:Kept}{v:V}(hl:([v]:List V).length=xs.size)(hr:∀j,j<([v]:List V).length->Rel G β (([v]:List V).getD j .undef) (xs.getD j Go.undef)):∃x,xs= #[x]/\Rel G β v x:=by
 obtain⟨x,rfl⟩:∃x,xs= #[x]:=by
  obtain⟨ys⟩:=xs
  match ys,hl with
  |[y],_=>exact⟨y,rfl⟩
 exact⟨x,rfl,by simpa using hr 0 (by simp)⟩
end
def RowE{α:Type}[Inhabited α](vo:α->V)(c:Nat->Nat->V)(l:List α):Prop:=∀r,r<l.length->c r 0=vo (l.getD r default)
section
variable {α:Type} [Inhabited α] {enc:α->Value} {vo:α->V}
structure EncV(enc:α->Value)(vo:α->V):Prop where
 of:∀ {G:Kept} {β:Homes} {x:α} {v:Value},Rel G β (vo x) v->v=enc x
 to:∀ {G:Kept} {β:Homes} (x:α),Rel G β (vo x) (enc x)
theorem rowE_holds(hE:EncV enc vo){β:Homes}{G K:Kept}{h:List Blk}{w:World}(r:RH β G K h w){i:Nat}{e:TypeId}{l:List α}{c:Nat->Nat->V}(hi:h[i]? =some (.rows e 1 l.length c))(hc:RowE vo c l){x:Home}(hb:β[i]? =some (.lie x)):
  Holds enc w x.b 0 l.toArray/\x.b<w.heap.size/\l.length<=x.cap/\l.length<=maxn:=by
 have hB:=r.blk i _ hi;rw[hb]at hB;obtain⟨h0,hn,hcap,cs,h1,h2,h3,h4,h5⟩:=hB;refine⟨fun j hj=> ?_,(Array.getElem?_eq_some_iff.1 h1).1,h3,h4⟩;have hj':j<l.length:=by simpa using hj
 have hv:=h5 j 0 hj' (by omega);rw[hc j hj',Nat.mul_one,Nat.add_zero]at hv;have hsz:j<cs.size:=by rw[h2,Nat.mul_one];omega
 have hx:cs[j]? =some (enc (l.getD j default)):=by
  rw[Array.getElem?_eq_getElem hsz];rw[aG,Array.getElem?_eq_getElem hsz,Option.getD_some]at hv;generalize cs[j]=v at hv
  exact congrArg some (hE.of hv)
 refine⟨?_,by simp[World.frozen?,h1]⟩;simp only[World.cell?,h1,Nat.zero_add];simp only[Option.isSome_none,Bool.false_eq_true,if_false];rw[hx];simp[gE,hj']
theorem rowE_put(hE:EncV enc vo){β:Homes}{G K:Kept}{h:List Blk}{w:World}(r:RH β G K h w){i:Nat}{e:TypeId}{n m:Nat}{c c':Nat->Nat->V}(hi:h[i]? =some (.rows e 1 n c)){x:Home}(hb:β[i]? =some (.lie x)){d:List α}{q:Nat}{os:Array Obj}(hd:d.length=n)(hm:m<=n)
  (hc:∀r,r<m->c' r 0=vo (d.getD r default)):RH β G K (h.set i (.rows e 1 m c')) (grow (putRow enc (Sort.ahead w q) x.b 0 d.toArray) os):=by
 have hB:=r.blk i _ hi;rw[hb]at hB;obtain⟨h0,hn,hcap,cs,h1,h2,h3,h4,h5⟩:=hB;have hlt:=(Array.getElem?_eq_some_iff.1 h1).1;have hsz:(putRow enc (Sort.ahead w q) x.b 0 d.toArray).heap.size=w.heap.size:=by simp[putRow,mapBlock]
 have hnew:(putRow enc (Sort.ahead w q) x.b 0 d.toArray).heap[x.b]? =some (.cells (putCells enc 0 d.toArray cs) e (0,0)):=by
  simp[putRow,mapBlock,Sort.ahead,Array.getElem?_modify,h1,onCells]
 have hold:∀b,b≠x.b->(putRow enc (Sort.ahead w q) x.b 0 d.toArray).heap[b]? =w.heap[b]? :=fun b hne=>by
  simp[putRow,mapBlock,Sort.ahead,Array.getElem?_modify,Ne.symm hne]
 refine RH.congr (w:=putRow enc (Sort.ahead w q) x.b 0 d.toArray) ?_ (fun b hb=>heap_grow_old _ _ hb) (by simp) ⟨rfl,rfl,rfl,Nat.le_refl _⟩;refine r.write (hm:=⟨rfl,rfl,rfl,Nat.le_add_right _ _⟩) hi (by simp) hb hold hsz ⟨h0,hn,hcap,_,hnew,by simp[putCells,h2],by omega,by omega,fun j k hj hk=> ?_⟩;have hk0:k=0:=by omega
 subst hk0;rw[hc j hj,Nat.mul_one,Nat.add_zero];have hjs:j<cs.size:=by rw[h2,Nat.mul_one];omega
 have hjd:j<d.length:=by omega
 have:(putCells enc 0 d.toArray cs).getD j Go.undef=enc (d.getD j default):=by
  simp[putCells,aG,hjs,hjd,gE]
 rw[this];exact hE.to _
variable {P:Program} {f:FuncId} {e:TypeId} {i:Nat} {l:List α} {c c':Nat->Nat->V} {h:List Blk}
theorem HCalls.sortE(hE:EncV enc vo){le:α->α->Bool}(he:∀xs w,(callFunc f xs).run P w=.ok (.enter f xs) w)
  (h1:∀(blk off cap:Nat) (zs:List α) (w:World),Holds enc w blk off zs.toArray->blk<w.heap.size->zs.length<4611686018427387904->Calls P f #[.slice (some ⟨blk,off,none⟩) zs.length cap] w fun e w'=>
   e=.returned (.tuple #[])/\∃n os,w'=grow (putRow enc (Sort.ahead w n) blk off (zs.mergeSort le).toArray) os)
  (h0:∀(p:Option Addr) (cap:Nat) (w:World),Calls P f #[.slice p 0 cap] w fun e w'=>e=.returned (.tuple #[])/\w'=w)
  (hi:h[i]? =some (.rows e 1 l.length c)) (hc:RowE vo c l) (hc':RowE vo c' (l.mergeSort le)):HCalls P f [.row i l.length] (.tuple []) h (h.set i (.rows e 1 l.length c')):=by
 refine⟨he,fun β G K w xs r hl hr=> ?_⟩;obtain⟨v,rfl,hv⟩:=arg1 hl hr;rcases slice_inv hv with⟨x,cap,hb,rfl,hn,hcap⟩|⟨hn,hb,a,rfl⟩
 ·obtain⟨g1,g2,g3,g4⟩:=rowE_holds hE r hi hc hb;refine(h1 x.b 0 cap l w g1 g2 (by unfold maxn at g4;omega)).mono ?_;rintro e' w' ⟨rfl,n,os,rfl⟩
  refine⟨_,β,G,K,rfl,Homes.le_refl _,G.ext_refl K,K.le_refl,rowE_put hE r hi hb (List.length_mergeSort l) (Nat.le_refl _) (fun j hj=>hc' j (by rw[List.length_mergeSort];exact hj)),.tuple rfl fun j hj=>absurd hj (Nat.not_lt_zero _)⟩
 ·refine(h0 a 0 w).mono ?_;rintro e' w' ⟨rfl,rfl⟩
  have hB:=r.blk i _ hi;rw[hb]at hB;refine⟨_,β,G,K,rfl,Homes.le_refl _,G.ext_refl K,K.le_refl,?_,.tuple rfl fun j hj=>absurd hj (Nat.not_lt_zero _)⟩;obtain⟨hB1,hB2⟩:l.length=0/\0<1:=hB;exact r.swap hi (by simp) rfl (by rw[hb];exact⟨hB1,hB2⟩)
theorem compactE_len[DecidableEq α](l:List α):(Lib.compact l).length<=l.length:=by
 unfold Lib.compact Lib.compactUpTo;rw[List.length_map];exact Nat.le_trans (List.length_filter_le _ _) (by simp)
def padE(l:List α)(n:Nat):List α:=l++List.replicate (n-l.length) default
theorem padE_len{l:List α}{n:Nat}(h:l.length<=n):(padE l n).length=n:=by simp[padE];omega
theorem HCalls.compactE(hE:EncV enc vo)[DecidableEq α](he:∀xs w,(callFunc f xs).run P w=.ok (.enter f xs) w)
  (h1:∀(blk off cap:Nat) (zs:List α) (w:World),Holds enc w blk off zs.toArray->zs.length<=9223372036854775807->zs.length<=cap->Calls P f #[.slice (some ⟨blk,off,none⟩) zs.length cap] w fun e w'=>
   e=.returned (.slice (some ⟨blk,off,none⟩) (Lib.compact zs).length cap)/\∃q,w'=putRow enc (Sort.ahead w q) blk off (Lib.compact zs++List.replicate (zs.length-(Lib.compact zs).length) default).toArray)
  (h0:∀(a:Option Addr) (cap:Nat) (w:World),Calls P f #[.slice a 0 cap] w fun e w'=>e=.returned (.slice a 0 cap)/\w'=w)
  (hi:h[i]? =some (.rows e 1 l.length c)) (hc:RowE vo c l) (hc':RowE vo c' (padE (Lib.compact l) l.length)):HCalls P f [.row i l.length] (.row i (Lib.compact l).length) h (h.set i (.rows e 1 l.length c')):=by
 refine⟨he,fun β G K w xs r hl hr=> ?_⟩;obtain⟨v,rfl,hv⟩:=arg1 hl hr;have hcl:=compactE_len l;rcases slice_inv hv with⟨x,cap,hb,rfl,hn,hcap⟩|⟨hn,hb,a,rfl⟩
 ·obtain⟨g1,g2,g3,g4⟩:=rowE_holds hE r hi hc hb;refine(h1 x.b 0 cap l w g1 (by unfold maxn at g4;omega) hn).mono ?_;rintro e' w' ⟨rfl,n,rfl⟩
  have hp:=rowE_put hE (q:=n) (os:= #[]) (c':=c') r hi hb (d:=padE (Lib.compact l) l.length) (padE_len hcl) (Nat.le_refl _) fun j hj=>hc' j (by rw[padE_len hcl];exact hj);have hg:∀w:World,grow w #[]=w:=fun w=>by simp[grow]
  rw[hg]at hp;exact⟨_,β,G,K,rfl,Homes.le_refl _,G.ext_refl K,K.le_refl,hp,.row hb (by omega) hcap (by omega)⟩
 ·refine(h0 a 0 w).mono ?_;rintro e' w' ⟨rfl,rfl⟩
  have hB:=r.blk i _ hi;rw[hb]at hB;obtain⟨hB1,hB2⟩:l.length=0/\0<1:=hB;have hz:(Lib.compact l).length=0:=by omega
  refine⟨_,β,G,K,rfl,Homes.le_refl _,G.ext_refl K,K.le_refl,r.swap hi (by simp) rfl (by rw[hb];exact⟨hB1,hB2⟩),?_⟩;rw[hz];exact .row0 hb
end
end Ab
namespace Ab
open Go
theorem HCalls.atRowN{P:Program}{f:FuncId}{args:List V}{v:V}{et:TypeId}{wd n n2:Nat}{c0 c2:Nat->Nat->V}(hc:HCalls P f args v [.rows et wd n c0] [.rows et wd n2 c2])(ha:∀j,(∃r off,args.getD j .undef=.ref 0 r off)\/(∃m,args.getD j .undef=.row 0 m)\/(args.getD j .undef).under 0=true)(hv:∃m,v=.row 0 m)
  {h:List Blk} {i:Nat} (hi:h[i]? =some (.rows et wd n c0)):HCalls P f (args.map (V.atR i)) (V.atR i v) h (h.set i (.rows et wd n2 c2)):=
 ⟨hc.1,fun β G K w xs r hl hr=>by
  have hB:=r.blk i _ hi;by_cases hnil:β[i]? =some .nil
  ·rw[hnil]at hB;obtain⟨hn0,hw0⟩:n=0/\0<wd:=hB;obtain⟨m,rfl⟩:=hv
   obtain⟨K0,hK0⟩:∃K0:Kept,K0=⟨fun b=>w.heap[b]?,K.amb⟩:=⟨_,rfl⟩
   have hGK0:G.le K0:=⟨fun b o hb=>by rw[hK0];exact r.keep b o (r.gk b o hb),r.gk.same.trans (by rw[hK0])⟩
   have r0:RH [.nil] G K0 [.rows et wd n c0] w:=by
    refine⟨rfl,fun j k hj=> ?_,fun j l y z k k' hj hl _ _ hb _ _=> ?_,fun j y k hj _ hb=> ?_,fun b o hb=>by rw[hK0]at hb;exact hb,hGK0,by rw[hK0];exact r.amb,fun j X tr hj=> ?_⟩
    ·match j,hj with
     |0,hj=>cases hj;exact⟨hn0,hw0⟩
     |j+1,hj=>simp at hj
    ·match j,hj,hb with
     |0,_,hb=>simp at hb
     |j+1,hj,_=>simp at hj
    ·match j,hj,hb with
     |0,_,hb=>simp at hb
     |j+1,hj,_=>simp at hj
    ·match j,hj with
     |0,hj=>cases hj
     |j+1,hj=>simp at hj
   refine(hc.tight rfl rfl [.nil] G K0 w xs r0 (by simpa using hl) fun j hj=> ?_).mono ?_
   ·have h1:=hr j (by simpa using hj)
    have e1:(args.map (V.atR i)).getD j .undef=V.atR i (args.getD j .undef):=by
     simp only[gE,List.getElem?_map];cases args[j]? <;>rfl
    rw[e1]at h1;rcases ha j with⟨q,off,e⟩|⟨m,e⟩|hu
    ·rw[e]at h1;change Rel G β (.ref i q off) _ at h1
     generalize xs.getD j Go.undef=y at h1
     cases h1 with
     |ref hb=>rw[hnil]at hb;cases hb
    ·rw[e]at h1⊢;change Rel G β (.row i m) _ at h1
     generalize xs.getD j Go.undef=y at h1
     cases h1 with
     |row hb q1 q2 q3=>rw[hnil]at hb;cases hb
     |row0 hb=>exact .row0 rfl
    ·have e2:V.atR i (args.getD j .undef)=args.getD j .undef:=by
      generalize args.getD j .undef=u at hu
      unfold V.atR;split
      ·simp[V.under]at hu
      ·simp[V.under]at hu
      ·rfl
     rw[e2]at h1;exact h1.low hu
   rintro e w' ⟨⟨y,γ,G',K',rfl,hγ,hG,hK,r',hy⟩,hmild⟩
   have hg0:γ=[.nil]:=by
    have h1:=hγ 0 .nil (by simp) rfl;have h2:γ.length=1:=r'.len
    match γ,h1,h2 with
    |[z],h1,_=>cases h1;rfl
   subst hg0
   have hold:∀b,b<w.heap.size->w'.heap[b]? =w.heap[b]? :=fun b hb=>by
    have e1:w.heap[b]? =some w.heap[b]:=Array.getElem?_eq_getElem hb;rw[e1];exact r'.keep b _ (hK b _ (by rw[hK0];exact e1))
   have hsz:w.heap.size<=w'.heap.size:=by
    rcases Nat.eq_zero_or_pos w.heap.size with h0|h0
    ·omega
    ·have e1:=hold (w.heap.size-1) (by omega);rw[Array.getElem?_eq_getElem (show w.heap.size-1<w.heap.size by omega)]at e1;have:=(Array.getElem?_eq_some_iff.1 e1).1;omega
   have r1:=r.congr hold hsz hmild;have hn2:n2=0/\0<wd:=r'.blk 0 _ rfl;have hself:(h.set i (.rows et wd n2 c2))[i]? =some (.rows et wd n2 c2):=List.getElem?_set_self (List.getElem?_eq_some_iff.1 hi).1;have old:∀ {j:Nat} {k:Blk},(h.set i (.rows et wd n2 c2))[j]? =some k->j≠i->h[j]? =some k:=fun {j k} hj e=>by rwa[sN (Ne.symm e)]at hj
   have notI:∀ {j:Nat} {x:Home},β[j]? =some (.lie x)->j≠i:=fun {j x} hb e=>by subst e;rw[hnil]at hb;cases hb
   refine⟨y,β,G,K,rfl,Homes.le_refl _,G.ext_refl K,K.le_refl,⟨by simp[r1.len],fun j k hj=> ?_,fun j l y z k k' hj hl g g' hbj hbl e=>r1.inj j l y z k k' (old hj (notI hbj)) (old hl (notI hbl)) g g' hbj hbl e,fun j y k hj g hb=>r1.sep j y k (old hj (notI hb)) g hb,r1.keep,r1.gk,r1.amb,fun j X tr hj=> ?_⟩,?_⟩
   ·by_cases e:j=i
    ·subst e;rw[hself]at hj;cases hj;rw[hnil];exact hn2
    ·exact r1.blk j k (old hj e)
   ·have e:j≠i:=fun e=>by subst e;rw[hself]at hj;cases hj
    obtain⟨l,E,h1,h2,h3,h4⟩:=r1.ext j X tr (old hj e);exact⟨l,E,h1,h2,h3,fun b hb=>⟨(h4 b hb).1,fun q z k hq g hz=>(h4 b hb).2 q z k (old hq (notI hz)) g hz⟩⟩
   ·cases hy with
    |row hb _ _ _=>simp at hb
    |row0 _=>exact .row0 hnil
  obtain⟨x,hx⟩:∃x,β[i]? =some (.lie x):=by
   cases hb:β[i]? with
   |none=>rw[hb]at hB;exact hB.elim
   |some m=>
    rw[hb]at hB
    cases m with
    |lie x=>exact⟨x,rfl⟩
    |void=>exact hB.elim
    |nil=>exact absurd hb hnil
    |ext l=>exact hB.elim
  rw[hx]at hB;obtain⟨hKx,hlt⟩:=r.sep i x _ hi (by simp) hx
  obtain⟨K0,hK0⟩:∃K0:Kept,K0=⟨fun b=>if b=x.b then none else w.heap[b]?,K.amb⟩:=⟨_,rfl⟩
  have k0x:K0 x.b=none:=by rw[hK0];simp
  have k0o:∀b,b≠x.b->K0 b=w.heap[b]? :=fun b hb=>by rw[hK0];simp[hb]
  have hGK0:G.le K0:=⟨fun b o hb=>by
   have h1:=r.gk b o hb;have h2:b≠x.b:=fun e=>by rw[e,hKx]at h1;cases h1
   rw[k0o b h2];exact r.keep b o h1,r.gk.same.trans (by rw[hK0])⟩
  have r0:RH [.lie x] G K0 [.rows et wd n c0] w:=by
   refine⟨rfl,fun j k hj=> ?_,fun j l y z k k' hj hl _ _ _ _ _=> ?_,fun j y k hj _ hb=> ?_,fun b o hb=> ?_,hGK0,by rw[hK0];exact r.amb,fun j X tr hj=> ?_⟩
   ·match j,hj with
    |0,hj=>
     cases hj;exact hB
    |j+1,hj=>simp at hj
   ·match j,l,hj,hl with
    |0,0,_,_=>rfl
    |j+1,_,hj,_=>simp at hj
    |0,l+1,_,hl=>simp at hl
   ·match j,hj,hb with
    |0,_,hb=>cases hb;exact⟨k0x,hlt⟩
    |j+1,hj,_=>simp at hj
   ·by_cases e:b=x.b
    ·rw[e,k0x]at hb;cases hb
    ·rw[k0o b e]at hb;exact hb
   ·match j,hj with
    |0,hj=>cases hj
    |j+1,hj=>simp at hj
  refine(hc.tight rfl rfl [.lie x] G K0 w xs r0 (by simpa using hl) fun j hj=> ?_).mono ?_
  ·have h1:=hr j (by simpa using hj)
   have e1:(args.map (V.atR i)).getD j .undef=V.atR i (args.getD j .undef):=by
    simp only[gE,List.getElem?_map];cases args[j]? <;>rfl
   rw[e1]at h1;rcases ha j with⟨q,off,e⟩|⟨m,e⟩|hu
   ·rw[e]at h1⊢;change Rel G β (.ref i q off) _ at h1
    generalize xs.getD j Go.undef=y at h1
    cases h1 with
    |ref hb=>rw[hx]at hb;cases hb;exact .ref rfl
   ·rw[e]at h1⊢;change Rel G β (.row i m) _ at h1
    generalize xs.getD j Go.undef=y at h1
    cases h1 with
    |row hb q1 q2 q3=>rw[hx]at hb;cases hb;exact .row rfl q1 q2 q3
    |row0 hb=>rw[hx]at hb;cases hb
   ·have e2:V.atR i (args.getD j .undef)=args.getD j .undef:=by
     generalize args.getD j .undef=u at hu
     unfold V.atR;split
     ·simp[V.under]at hu
     ·simp[V.under]at hu
     ·rfl
    rw[e2]at h1;exact h1.low hu
  rintro e w' ⟨⟨y,γ,G',K',rfl,hγ,hG,hK,r',hy⟩,hmild⟩
  have hg0:γ=[.lie x]:=by
   have h1:=hγ 0 (.lie x) (by simp) rfl;have h2:γ.length=1:=r'.len
   match γ,h1,h2 with
   |[z],h1,_=>cases h1;rfl
  subst hg0
  have hold:∀b,b<w.heap.size->b≠x.b->w'.heap[b]? =w.heap[b]? :=fun b hb hne=>by
   have e1:w.heap[b]? =some w.heap[b]:=Array.getElem?_eq_getElem hb;rw[e1];exact r'.keep b _ (hK b _ (by rw[k0o b hne];exact e1))
  have hx':=r'.sep 0 x _ rfl (by simp) rfl
  have hsz:w.heap.size<=w'.heap.size:=by
   rcases Nat.lt_or_ge w'.heap.size w.heap.size with q|q
   ·by_cases e:w'.heap.size=x.b
    ·have:=hx'.2;omega
    ·have:=hold w'.heap.size q e;rw[Array.getElem?_eq_none (Nat.le_refl _),Array.getElem?_eq_getElem q]at this;cases this
   ·exact q
  have hnew:∀b o,G' b=some o->G b=some o\/w.heap.size<=b:=fun b o hb=>by
   rcases hG.2 b o hb with q|q
   ·exact .inl q
   ·rcases Nat.lt_or_ge b w.heap.size with z|z
    ·by_cases e:b=x.b
     ·have:=r'.gk b o hb;rw[e,hx'.1]at this;cases this
     ·rw[k0o b e,Array.getElem?_eq_getElem z]at q;cases q
    ·exact .inr z
  have hKlt:∀b o,K b=some o->b<w.heap.size:=fun b o hb=>(Array.getElem?_eq_some_iff.1 (r.keep b o hb)).1
  have hKn:∀b,w.heap.size<=b->K b=none:=fun b hb=>by
   cases q:K b with
   |none=>rfl
   |some o=>have:=hKlt b o q;omega
  obtain⟨K2,hK2⟩:∃K2:Kept,K2=⟨fun b=>match K b with|some o=>some o|none=>G' b,K.amb⟩:=⟨_,rfl⟩
  have k2K:∀b o,K b=some o->K2 b=some o:=fun b o hb=>by rw[hK2];simp[hb]
  have k2n:∀b,K b=none->K2 b=G' b:=fun b hb=>by rw[hK2];simp[hb]
  have k2none:∀b,b<w.heap.size->K b=none->K2 b=none:=fun b hb hn=>by
   rw[k2n b hn]
   cases q:G' b with
   |none=>rfl
   |some o=>
    rcases hnew b o q with z|z
    ·have:=r.gk b o z;rw[hn]at this;cases this
    ·omega
  have hsame:K.amb=G'.amb:=by rw[<-r.gk.same];exact hG.1.same
  refine⟨y,β,G',K2,rfl,Homes.le_refl _,⟨hG.1,fun b o hb=>(hnew b o hb).imp id (hKn b)⟩,⟨k2K,by rw[hK2]⟩,⟨by simp[r.len],fun j k hj=> ?_,fun j l y z k k' hj hl g g' hbj hbl e=> ?_,fun j y k hj g hb=> ?_,fun b o hb=> ?_,⟨fun b o hb=> ?_,?_⟩,?_,fun j X tr hj=> ?_⟩,?_⟩
  ·by_cases e:j=i
   ·subst e;rw[List.getElem?_set_self (List.getElem?_eq_some_iff.1 hi).1]at hj;cases hj;rw[hx];exact r'.blk 0 _ rfl
   ·rw[sN (Ne.symm e)]at hj;by_cases hg:k=.gone
    ·subst hg;cases(β[j]?.getD .void)<;>trivial
    refine(r.blk j k hj).mono hG.1 (Homes.le_refl _) fun y hy=> ?_
    have hb:β[j]? =some (.lie y):=by
     cases hb:β[j]? with
     |none=>simp[hb]at hy
     |some z=>simp[hb]at hy;rw[hy]
    refine hold y.b (r.sep j y k hj hg hb).2 fun e2=>e ?_;exact r.inj j i y x k _ hj hi hg (by simp) hb hx e2
  ·have look:∀ {j:Nat} {k:Blk},(h.set i (.rows et wd n2 c2))[j]? =some k->k≠ .gone->∃k2,h[j]? =some k2/\k2≠ .gone:=fun {j k} hj g=>by
    by_cases e:j=i
    ·subst e;exact⟨_,hi,by simp⟩
    ·rw[sN (Ne.symm e)]at hj;exact⟨k,hj,g⟩
   obtain⟨k2,q1,q2⟩:=look hj g;obtain⟨k3,q3,q4⟩:=look hl g';exact r.inj j l y z k2 k3 q1 q3 q2 q4 hbj hbl e
  ·by_cases e:j=i
   ·subst e;rw[hx]at hb;cases hb;exact⟨k2none _ hlt hKx,Nat.lt_of_lt_of_le hlt hsz⟩
   ·rw[sN (Ne.symm e)]at hj;have hs:=r.sep j y k hj g hb;exact⟨k2none _ hs.2 hs.1,Nat.lt_of_lt_of_le hs.2 hsz⟩
  ·cases q:K b with
   |none=>rw[k2n b q]at hb;exact r'.keep b o (r'.gk b o hb)
   |some o'=>
    rw[k2K b o' q]at hb;cases hb;have hne:b≠x.b:=fun e=>by rw[e,hKx]at q;cases q
    rw[hold b (hKlt b _ q) hne];exact r.keep b _ q
  ·cases q:K b with
   |none=>rw[k2n b q];exact hb
   |some o'=>
    rw[k2K b o' q];rcases hnew b o hb with z|z
    ·have:=r.gk b o z;rw[q]at this;exact this
    ·have:=hKlt b o' q;omega
  ·rw[hK2];exact hsame.symm
  ·rw[hK2];exact r.amb.mild hmild
  ·have hne:j≠i:=fun e=>by
    subst e;rw[List.getElem?_set_self (List.getElem?_eq_some_iff.1 hi).1]at hj;cases hj
   rw[sN (Ne.symm hne)]at hj;obtain⟨l,E,h1,h2,h3,h4⟩:=r.ext j X tr hj
   have hE:∀b,E b≠none->b<w.heap.size/\b≠x.b:=fun b hb=>⟨Ext.lt h2 hb,fun e=>(h4 b hb).2 i x _ hi (by simp) hx e.symm⟩
   refine⟨l,E,h1,X.stable h2 (fun b o hb=> ?_) (fun b o hb=> ?_) hsz hmild,⟨fun b o hb=>k2K b o (h3 b o hb),h3.same.trans (by rw[hK2])⟩,fun b hb=>⟨k2none b (hE b hb).1 (h4 b hb).1,fun q z k hq g hz=> ?_⟩⟩
   ·have q:=X.keeps h2 b o hb;have:=hE b (by rw[hb];simp);rw[hold b this.1 this.2];exact q
   ·have q:=h3 b o hb;have hne2:b≠x.b:=fun e=>by rw[e,hKx]at q;cases q
    rw[hold b (hKlt b o q) hne2];exact r.keep b o q
   ·by_cases e:q=i
    ·subst e;rw[hx]at hz;cases hz;exact fun e=>(hE b hb).2 e.symm
    ·rw[sN (Ne.symm e)]at hq;exact(h4 b hb).2 q z k hq g hz
  ·obtain⟨m,rfl⟩:=hv;show Rel G' β (.row i m) y
   cases hy with
   |row hb q1 q2 q3=>cases hb;exact .row hx q1 q2 q3
   |row0 hb=>cases hb⟩
def kS(ks:List ByteArray):List Value:=ks.map Value.string
theorem kS_len(ks:List ByteArray):(kS ks).length=ks.length:=by simp[kS]
theorem ba_beq_self(k:ByteArray):(k==k)=true:=by
 cases k with
 |mk d=>exact beq_self_eq_true d
theorem ba_beq_ne{k a:ByteArray}(h:a≠k):(k==a)=false:=by
 cases k with
 |mk d=>cases a with
  |mk e=>
   have:(d==e)=false:=beq_eq_false_iff_ne.2 fun q=>h (congrArg _ q.symm);exact this
theorem findNow_noneS(k:ByteArray):∀(L:List MapEntry) (i:Nat),(∀e∈L,∃a,e.key=.string a/\a≠k)->Instr.findNow .string (.string k) L i=some none
 |[],_,_=>rfl
 |e::L,i,h=>by
  obtain⟨a,h1,h2⟩:=h e List.mem_cons_self;have hk:(k==a)=false:=ba_beq_ne h2;have ih:=findNow_noneS k L (i+1) fun e he=>h e (List.mem_cons_of_mem _ he);simp[Instr.findNow,h1,Instr.sameNow,hk,ih]
theorem findNow_someS(k:ByteArray)(e:MapEntry)(he:e.key=.string k)(L2:List MapEntry):∀(L1:List MapEntry) (i:Nat),(∀e∈L1,∃a,e.key=.string a/\a≠k)->Instr.findNow .string (.string k) (L1++e::L2) i=some (some (i+L1.length,e.val))
 |[],i,_=>by simp[Instr.findNow,he,Instr.sameNow,ba_beq_self]
 |d::L1,i,h=>by
  obtain⟨a,h1,h2⟩:=h d List.mem_cons_self;have hk:(k==a)=false:=ba_beq_ne h2;have ih:=findNow_someS k e he L2 L1 (i+1) fun e he=>h e (List.mem_cons_of_mem _ he);simp[Instr.findNow,h1,Instr.sameNow,hk,ih];omega
section
variable {P:Program} {h:List Blk}
theorem run_findKey_str{w:World}{kt:TypeId}(hk:P.underlying kt=some .string){k:ByteArray}{es:List MapEntry}{r:Option (Nat × Value)}(h:Instr.findNow .string (.string k) es 0=some r):(Instr.findKey kt (.string k) es).run P w=.ok r w:=by
 simp[Instr.findKey,run_underlying' hk,h]
theorem run_checkKey_str{w:World}{kt:TypeId}(hk:P.underlying kt=some .string)(b:Bool)(k:ByteArray):(Instr.checkKey b 10000 kt (.string k)).run P w=.ok () w:=by
 have:∀n,(Instr.checkKey b (n+1) kt (.string k)).run P w=.ok () w:=fun n=>by
  simp only[Instr.checkKey,Sem.run_bind,run_underlying' hk,Result.andThen_ok];rfl
 exact this 9999
theorem keys_neS{β:Homes}{G:Kept}{es:Array MapEntry}{ks:List ByteArray}{vs:List V}(hs:es.size=(kS ks).length)(he:∀j k,(kS ks)[j]? =some k->∃e,es[j]? =some e/\e.key=k/\e.born=j/\Rel G β (vs.getD j .undef) e.val){k:ByteArray}{n:Nat}
  (hk:∀j,j<n->ks[j]?≠some k):∀e∈es.toList.take n,∃a,e.key=.string a/\a≠k:=fun e hm=>by
 obtain⟨j,hj,rfl⟩:=List.getElem_of_mem hm;simp only[List.length_take,Array.length_toList]at hj;have hjs:j<es.size:=by omega
 have hjk:j<ks.length:=by rw[hs,kS_len]at hjs;exact hjs
 obtain⟨e,h1,h2,-⟩:=he j (.string ks[j]) (by simp[kS,hjk]);have e1:es[j]? =some es[j]:=Array.getElem?_eq_getElem hjs;rw[e1]at h1;cases h1;refine⟨ks[j],?_,fun q=>hk j (by omega) (by rw[List.getElem?_eq_getElem hjk,q])⟩;simpa using h2
theorem sem_lookupS0{t kt et:TypeId}{ks:List ByteArray}{vs:List V}{q:Nat}{x y:Operand}{k:ByteArray}(ht:P.underlying t=some (.map kt et))(hk:P.underlying kt=some .string)(hz:(P.info? et).bind (·.zero)=some (.int .i64 0))(hq:h[q]? =some (.maps (kS ks) vs))(hno:k∉ks):
  SemOK P (.lookup t x y false) [(x,.map q),(y,.str k)] h (.int .i64 0) h:=fun β G K w ρ' oper ho _ r hr=>by
 obtain⟨b,hb⟩:=rel_map_inv (hr (x,.map q) (by simp));have hy:=rel_str_inv (hr (y,.str k) (by simp));simp only at hb hy;have h1:=hr (x,.map q) (by simp);rw[hb]at h1;obtain⟨xx,es,_,rfl,hh,hs,he⟩:=home_maps r hq h1
 have hzv:(zeroValue et).run P w=.ok (.int .i64 0) w:=by
  cases hi:P.info? et with
  |none=>simp[hi]at hz
  |some i=>
   cases hz':i.zero with
   |none=>simp[hi,hz']at hz
   |some z=>
    simp[hi,hz']at hz;subst hz;simp only[zeroValue,Sem.run_bind,run_typeInfo' hi,Result.andThen_ok,hz',Sem.run_pure]
 have hn:=keys_neS hs he (k:=k) (n:=es.size) (fun j _ e=>hno (List.mem_of_getElem? e));rw[<-Array.length_toList,List.take_length]at hn;have hf:=findNow_noneS k es.toList 0 hn;have hg:(getObj xx.b).run P w=.ok (.map es (kS ks).length) w:=MapKept.run_getObj_map hh;refine opOK_value (y:=.int .i64 0) r ?_ (.int _ _)
 have hrun:(Instr.lookup t (.map (some xx.b)) (.string k) false).run P w=.ok (.int .i64 0) w:=by
  simp only[Instr.lookup,Sem.run_bind,run_underlying' ht,Result.andThen_ok,hg,Sem.run_pure,run_checkKey_str hk];rw[run_findKey_str hk hf];simp[hzv]
 simp only[execOp,ho,hb,hy,Sem.run_bind,hrun,Result.andThen_ok,Sem.run_pure]
theorem sem_lookupS1{t kt et:TypeId}{ks:List ByteArray}{vs:List V}{q j:Nat}{x y:Operand}{k:ByteArray}(ht:P.underlying t=some (.map kt et))(hk:P.underlying kt=some .string)(hq:h[q]? =some (.maps (kS ks) vs))(hj:ks[j]? =some k)(hne:∀i,i<j->ks[i]?≠some k):
  SemOK P (.lookup t x y false) [(x,.map q),(y,.str k)] h (vs.getD j .undef) h:=fun β G K w ρ' oper ho _ r hr=>by
 obtain⟨b,hb⟩:=rel_map_inv (hr (x,.map q) (by simp));have hy:=rel_str_inv (hr (y,.str k) (by simp));simp only at hb hy;have h1:=hr (x,.map q) (by simp);rw[hb]at h1;obtain⟨xx,es,_,rfl,hh,hs,he⟩:=home_maps r hq h1;obtain⟨e,g1,g2,g3,g4⟩:=he j (.string k) (by simp[kS,hj]);have hjs:j<es.size:=(Array.getElem?_eq_some_iff.1 g1).1;have hn:=keys_neS hs he (k:=k) (n:=j) hne
 have hsplit:es.toList=es.toList.take j++e::es.toList.drop (j+1):=by
  have e1:es.toList[j]? =some e:=by simpa using g1
  have e2:=(List.getElem?_eq_some_iff.1 e1)
  obtain⟨l1,l2⟩:=e2;rw[<-l2,List.getElem_cons_drop,List.take_append_drop]
 have hf:=findNow_someS k e g2 (es.toList.drop (j+1)) (es.toList.take j) 0 hn;rw[<-hsplit]at hf;have hg:(getObj xx.b).run P w=.ok (.map es (kS ks).length) w:=MapKept.run_getObj_map hh;refine opOK_value (y:=e.val) r ?_ g4
 have hrun:(Instr.lookup t (.map (some xx.b)) (.string k) false).run P w=.ok e.val w:=by
  simp only[Instr.lookup,Sem.run_bind,run_underlying' ht,Result.andThen_ok,hg,Sem.run_pure,run_checkKey_str hk];rw[run_findKey_str hk hf];simp
 simp only[execOp,ho,hb,hy,Sem.run_bind,hrun,Result.andThen_ok,Sem.run_pure]
theorem sem_updateS{t kt et:TypeId}{ks:List ByteArray}{vs:List V}{q:Nat}{x y z:Operand}{k:ByteArray}{v:V}(ht:P.underlying t=some (.map kt et))(hk:P.underlying kt=some .string)(hq:h[q]? =some (.maps (kS ks) vs))(hvl:vs.length=ks.length)(hno:k∉ks):
  SemOK P (.mapUpdate t x y z) [(x,.map q),(y,.str k),(z,v)] h .undef (h.set q (.maps (kS (ks++ [k])) (vs++ [v]))):=fun β G K w ρ' oper ho _ r hr=>by
 obtain⟨b,hb⟩:=rel_map_inv (hr (x,.map q) (by simp));have hy:=rel_str_inv (hr (y,.str k) (by simp));have hv:=hr (z,v) (by simp);simp only at hb hy hv;have h1:=hr (x,.map q) (by simp);rw[hb]at h1;obtain⟨xx,es,hx,rfl,hh,hs,he⟩:=home_maps r hq h1;have hn:=keys_neS hs he (k:=k) (n:=es.size) (fun j _ e=>hno (List.mem_of_getElem? e));rw[<-Array.length_toList,List.take_length]at hn;have hf:=findNow_noneS k es.toList 0 hn
 have hg:(getObj xx.b).run P w=.ok (.map es (kS ks).length) w:=MapKept.run_getObj_map hh;have hst:∀o,(setObj xx.b o).run P w=.ok () (w.putObj xx.b o):=fun o=>MapKept.run_setObj_map o hh
 have hrun:(Instr.mapUpdate t (.map (some xx.b)) (.string k) (ρ' z)).run P w=.ok () (w.putObj xx.b (.map (es.push {key:=.string k,val:=ρ' z,born:=ks.length}) (ks.length+1))):=by
  simp only[Instr.mapUpdate,Sem.run_bind,run_underlying' ht,Result.andThen_ok,hg,run_checkKey_str hk];rw[run_findKey_str hk hf];simp[hst,kS_len]
 have hlt:=(Array.getElem?_eq_some_iff.1 hh).1;have hes:es.size=ks.length:=by rw[hs,kS_len]
 have hlen2:(kS (ks++ [k])).length=ks.length+1:=by simp[kS]
 have hblk:∀j key,(kS (ks++ [k]))[j]? =some key->∃e,(es.push {key:=.string k,val:=ρ' z,born:=ks.length})[j]? =some e/\e.key=key/\e.born=j/\Rel G β ((vs++ [v]).getD j .undef) e.val:=fun j key hj=>by
  rcases Nat.lt_or_ge j ks.length with hlt'|hge
  ·have hj':(kS ks)[j]? =some key:=by
    rw[<-hj];simp only[kS,List.map_append];rw[aL (by simpa using hlt')]
   obtain⟨e,g1,g2,g3,g4⟩:=he j key hj';refine⟨e,?_,g2,g3,?_⟩
   ·rw[Array.getElem?_push,if_neg (by omega)];exact g1
   ·rw[getD_append_left (by omega)];exact g4
  ·have hjl:j<(kS (ks++ [k])).length:=(List.getElem?_eq_some_iff.1 hj).1;rw[kS_len,List.length_append]at hjl;obtain rfl:j=ks.length:=by simp at hjl;omega
   have hkey:key=.string k:=by
    have:(kS (ks++ [k]))[ks.length]? =some (.string k):=by simp[kS]
    rw[this]at hj;cases hj;rfl
   refine⟨{key:=.string k,val:=ρ' z,born:=ks.length},by rw[Array.getElem?_push,if_pos hes.symm],hkey.symm,rfl,?_⟩;rw[<-hvl,getD_append_right (Nat.le_refl _),Nat.sub_self];exact hv
 refine⟨.skip,w.putObj xx.b (.map (es.push {key:=.string k,val:=ρ' z,born:=ks.length}) (ks.length+1)),β,?_,Homes.le_refl _,r.write (hm:=Mild.putObj _ _ _) hq (by simp) hx (fun b hb=>World.putObj_heap_other hb) (by simp) ⟨es.push {key:=.string k,val:=ρ' z,born:=ks.length},?_,?_,hblk⟩,rfl⟩
 ·simp only[execOp,ho,hb,hy,Sem.run_bind,hrun,Result.andThen_ok,Sem.run_pure]
 ·rw[hlen2];exact World.putObj_heap_same hlt
 ·rw[hlen2,Array.size_push,hes]
theorem sem_updateS1{t kt et:TypeId}{ks:List ByteArray}{vs:List V}{q j:Nat}{x y z:Operand}{k:ByteArray}{v:V}(ht:P.underlying t=some (.map kt et))(hk:P.underlying kt=some .string)(hq:h[q]? =some (.maps (kS ks) vs))(hvl:vs.length=ks.length)(hj:ks[j]? =some k)(hne:∀i,i<j->ks[i]?≠some k):
  SemOK P (.mapUpdate t x y z) [(x,.map q),(y,.str k),(z,v)] h .undef (h.set q (.maps (kS ks) (vs.set j v))):=fun β G K w ρ' oper ho _ r hr=>by
 obtain⟨b,hb⟩:=rel_map_inv (hr (x,.map q) (by simp));have hy:=rel_str_inv (hr (y,.str k) (by simp));have hv:=hr (z,v) (by simp);simp only at hb hy hv;have h1:=hr (x,.map q) (by simp);rw[hb]at h1;obtain⟨xx,es,hx,rfl,hh,hs,he⟩:=home_maps r hq h1;obtain⟨e,g1,g2,g3,g4⟩:=he j (.string k) (by simp[kS,hj]);have hjs:j<es.size:=(Array.getElem?_eq_some_iff.1 g1).1;have hn:=keys_neS hs he (k:=k) (n:=j) hne
 have hsplit:es.toList=es.toList.take j++e::es.toList.drop (j+1):=by
  have e1:es.toList[j]? =some e:=by simpa using g1
  have e2:=(List.getElem?_eq_some_iff.1 e1)
  obtain⟨l1,l2⟩:=e2;rw[<-l2,List.getElem_cons_drop,List.take_append_drop]
 have hf:=findNow_someS k e g2 (es.toList.drop (j+1)) (es.toList.take j) 0 hn;rw[<-hsplit]at hf;have hlt0:(es.toList.take j).length=j:=by simp;omega
 rw[Nat.zero_add,hlt0]at hf;have hg:(getObj xx.b).run P w=.ok (.map es (kS ks).length) w:=MapKept.run_getObj_map hh;have hst:∀o,(setObj xx.b o).run P w=.ok () (w.putObj xx.b o):=fun o=>MapKept.run_setObj_map o hh;have hkey:(((es[j]?).map (·.key)).getD (.string k))=.string k:=by rw[g1];simpa using g2
 have hstay:(Instr.keyThatStays (.string k) (.string k)).run P w=.ok (.string k) w:=by
  have:Instr.sameBits 10000 (.string k) (.string k)=true:=ba_beq_self k;simp only[Instr.keyThatStays,this,if_true,Sem.run_pure]
 have hrun:(Instr.mapUpdate t (.map (some xx.b)) (.string k) (ρ' z)).run P w=.ok () (w.putObj xx.b (.map (es.modify j fun e=>{e with key:=.string k,val:=ρ' z}) (kS ks).length)):=by
  simp only[Instr.mapUpdate,Sem.run_bind,run_underlying' ht,Result.andThen_ok,hg,run_checkKey_str hk];rw[run_findKey_str hk hf];simp only[Result.andThen_ok,Sem.run_bind,hkey,hstay,hst]
 have hlt:=(Array.getElem?_eq_some_iff.1 hh).1
 have hblk:∀i key,(kS ks)[i]? =some key->∃e',(es.modify j fun e=>{e with key:=.string k,val:=ρ' z})[i]? =some e'/\e'.key=key/\e'.born=i/\Rel G β ((vs.set j v).getD i .undef) e'.val:=fun i key hi=>by
  obtain⟨e',f1,f2,f3,f4⟩:=he i key hi;have hil:i<es.size:=(Array.getElem?_eq_some_iff.1 f1).1;have hik:i<ks.length:=by rw[hs,kS_len]at hil;exact hil
  by_cases hij:j=i
  ·subst hij;rw[g1]at f1;cases f1;refine⟨{e with key:=.string k,val:=ρ' z},?_,?_,f3,?_⟩
   ·rw[Array.getElem?_modify,if_pos rfl,g1];rfl
   ·rw[<-f2,g2]
   ·rw[gE,List.getElem?_set_self (by omega)];exact hv
  ·refine⟨e',?_,f2,f3,?_⟩
   ·rw[Array.getElem?_modify,if_neg hij];exact f1
   ·rw[gE,sN hij,<-List.getD_eq_getElem?_getD];exact f4
 refine⟨.skip,w.putObj xx.b (.map (es.modify j fun e=>{e with key:=.string k,val:=ρ' z}) (kS ks).length),β,?_,Homes.le_refl _,r.write (hm:=Mild.putObj _ _ _) hq (by simp) hx (fun b hb=>World.putObj_heap_other hb) (by simp) ⟨es.modify j fun e=>{e with key:=.string k,val:=ρ' z},World.putObj_heap_same hlt,?_,hblk⟩,rfl⟩
 ·simp only[execOp,ho,hb,hy,Sem.run_bind,hrun,Result.andThen_ok,Sem.run_pure]
 ·rw[Array.size_modify,hs]
theorem sem_rangeS{t kt et:TypeId}{ks:List ByteArray}{vs:List V}{q:Nat}{x:Operand}(ht:P.underlying t=some (.map kt et))(hq:h[q]? =some (.maps (kS ks) vs)):
  SemOK P (.range t x) [(x,.map q)] h (.ref h.length 0 0) (h++ [.iter (.map q) ks.length #[]]):=fun β G K w ρ' oper ho _ r hr=>by
 obtain⟨b,hb⟩:=rel_map_inv (hr (x,.map q) (by simp));simp only at hb;have h1:=hr (x,.map q) (by simp);rw[hb]at h1;obtain⟨xx,es,hx,rfl,hh,hs,he⟩:=home_maps r hq h1;have hg:(getObj xx.b).run P w=.ok (.map es (kS ks).length) w:=MapKept.run_getObj_map hh;refine⟨.value (.pointer (some ⟨w.heap.size,0,none⟩)),w.alloc (.mapIter (some xx.b) ks.length #[] ks.length),β++ [Hm.lie ⟨w.heap.size,0,0⟩],?_,Homes.le_append _ _,r.push rfl ⟨xx.b,h1.mono G.le_refl (Homes.le_append _ _),heap_alloc_new w _⟩,?_⟩
 ·simp only[execOp,ho,hb,Instr.range,Sem.run_bind,run_underlying' ht,Result.andThen_ok,hg,Sem.run_pure,run_newObj,World.alloc_eq,kS_len]
 ·have:=Rel.ref (G:=G) (r:=0) (off:=0) (ref_new r w.heap.size 0 0);simp only[Nat.zero_mul,Nat.add_zero]at this;exact this
theorem born_ltS{β:Homes}{G:Kept}{es:Array MapEntry}{ks:List ByteArray}{vs:List V}(hs:es.size=(kS ks).length)(he:∀j k,(kS ks)[j]? =some k->∃e,es[j]? =some e/\e.key=k/\e.born=j/\Rel G β (vs.getD j .undef) e.val){x:MapEntry}(hx:x∈es.toList):
  ∃j,es[j]? =some x/\j<ks.length/\x.born=j/\x.key=.string (ks.getD j ByteArray.empty)/\Rel G β (vs.getD j .undef) x.val:=by
 obtain⟨j,hj,rfl⟩:=List.getElem_of_mem hx;have hjs:j<es.size:=by simpa using hj
 have hjk:j<ks.length:=by rw[hs,kS_len]at hjs;exact hjs
 obtain⟨e,h1,h2,h3,h4⟩:=he j (.string ks[j]) (by simp[kS,hjk]);have e1:es[j]? =some es[j]:=Array.getElem?_eq_getElem hjs;rw[e1]at h1;cases h1;refine⟨j,by simp,hjk,by simpa using h3,?_,by simpa using h4⟩;rw[gE,List.getElem?_eq_getElem hjk];simpa using h2
theorem homes_iterS{β:Homes}{G K:Kept}{w:World}(r:RH β G K h w){ks:List ByteArray}{vs:List V}{q i n:Nat}{seen:Array Nat}{p:Value}(hq:h[q]? =some (.maps (kS ks) vs))(hi:h[i]? =some (.iter (.map q) n seen))(hp:Rel G β (.ref i 0 0) p):
  ∃(x:Home) (b:Nat) (es:Array MapEntry),β[i]? =some (.lie x)/\p=.pointer (some ⟨x.b,0,none⟩)/\w.heap[x.b]? =some (.mapIter (some b) n seen n)/\w.heap[b]? =some (.map es (kS ks).length)/\Rel G β (.map q) (.map (some b))/\
   es.size=(kS ks).length/\∀j k,(kS ks)[j]? =some k->∃e,es[j]? =some e/\e.key=k/\e.born=j/\Rel G β (vs.getD j .undef) e.val:=by
 cases hp with
 |ref hb=>
  rename_i x;have hB:=r.blk i _ hi;rw[hb]at hB;obtain⟨b,h1,h2⟩:=hB;obtain⟨y,es,_,_,h3,h4,h5⟩:=home_maps r hq h1;exact⟨x,b,es,hb,by simp,h2,h3,h1,h4,h5⟩
theorem sem_next0S{ks:List ByteArray}{vs:List V}{q i:Nat}{x:Operand}{seen:Array Nat}(hq:h[q]? =some (.maps (kS ks) vs))(hi:h[i]? =some (.iter (.map q) ks.length seen))(h0:leftM ks.length seen=[]):
  SemOK P (.next x false) [(x,.ref i 0 0)] h (.tuple [.bool false]) h:=fun β G K w ρ' oper ho _ r hr=>by
 have hp:=hr (x,.ref i 0 0) (by simp);obtain⟨y,b,es,hb,he,h1,h2,h3,hs,hes⟩:=homes_iterS r hq hi hp;simp only at he;rw[kS_len]at h2
 rcases run_next_at (P:=P) w oper.type y.b b ks.length ks.length seen es ks.length h1 h2 (fun x hx=>by
  obtain⟨j,_,q2,q3,_⟩:=born_ltS hs hes hx;omega) (Nat.le_refl _)with⟨_,hrun⟩|⟨e,hem,_⟩
 ·refine opOK_value (y:=.tuple #[.bool false]) r ?_ (.tuple rfl fun j hj=> ?_)
  ·simp only[execOp,ho,he,Sem.run_bind,hrun,Result.andThen_ok,Sem.run_pure]
  ·have:j=0:=by simp at hj;omega
   subst this;exact .bool _
 ·unfold leftOf at hem;simp only[Array.toList_filter,List.mem_filter]at hem;obtain⟨j,_,q2,q3,_⟩:=born_ltS hs hes hem.1
  have:e.born∈leftM ks.length seen:=by
   simp only[leftM,List.mem_filter,List.mem_range];exact⟨by omega,hem.2⟩
  rw[h0]at this;cases this
theorem sem_next1S{ks:List ByteArray}{vs:List V}{q i:Nat}{x:Operand}{seen:Array Nat}(hq:h[q]? =some (.maps (kS ks) vs))(hi:h[i]? =some (.iter (.map q) ks.length seen))(h0:leftM ks.length seen≠ []):
  SemAny P (.next x false) [(x,.ref i 0 0)] h (leftM ks.length seen).length (fun j=>.tuple [.bool true,.str (ks.getD ((leftM ks.length seen).getD j 0) ByteArray.empty),vs.getD ((leftM ks.length seen).getD j 0) .undef])
   (fun j=>h.set i (.iter (.map q) ks.length (seen.push ((leftM ks.length seen).getD j 0)))):=fun β G K w ρ' oper ho _ r hr=>by
 have hp:=hr (x,.ref i 0 0) (by simp);obtain⟨y,b,es,hb,he,h1,h2,h3,hs,hes⟩:=homes_iterS r hq hi hp;simp only at he;rw[kS_len]at h2
 rcases run_next_at (P:=P) w oper.type y.b b ks.length ks.length seen es ks.length h1 h2 (fun x hx=>by
  obtain⟨j,_,q2,q3,_⟩:=born_ltS hs hes hx;omega) (Nat.le_refl _)with⟨hz,_⟩|⟨e,hem,w1,hw1,hrun⟩
 ·exfalso
  obtain⟨j,hj⟩:=List.exists_mem_of_ne_nil _ h0;unfold leftOf at hz;rw[Array.size_eq_zero_iff,Array.filter_eq_empty_iff]at hz;simp only[leftM,List.mem_filter,List.mem_range]at hj;obtain⟨e,g1,g2,g3,g4⟩:=hes j (.string ks[j]) (by simp[kS,hj.1]);exact hz e (Array.mem_of_getElem? g1) (by rw[g3];exact hj.2)
 ·unfold leftOf at hem;simp only[Array.toList_filter,List.mem_filter]at hem;obtain⟨j0,q1,q2,q3,q4,q5⟩:=born_ltS hs hes hem.1
  have hl:e.born∈leftM ks.length seen:=by
   simp only[leftM,List.mem_filter,List.mem_range];exact⟨by omega,hem.2⟩
  obtain⟨j,hj,hje⟩:=List.getElem_of_mem hl;have hgd:(leftM ks.length seen).getD j 0=j0:=by rw[gE,List.getElem?_eq_getElem hj];exact hje.trans q3
  refine⟨j,hj,?_⟩
  have r1:RH β G K h w1:=by
   rcases hw1 with rfl|rfl
   ·exact r
   ·exact r.drew
  have hh1:w1.heap[y.b]? =some (.mapIter (some b) ks.length seen ks.length):=by
   rcases hw1 with rfl|rfl
   ·exact h1
   ·exact h1
  have hlt1:=(Array.getElem?_eq_some_iff.1 hh1).1;refine⟨.value (.tuple #[.bool true,e.key,e.val]),w1.putObj y.b (.mapIter (some b) ks.length (seen.push e.born) ks.length),β,?_,Homes.le_refl _,?_,?_⟩
  ·simp only[execOp,ho,he,Sem.run_bind,hrun,Result.andThen_ok,Sem.run_pure];rfl
  ·simp only[hgd,q3];exact r1.write (hm:=Mild.putObj _ _ _) hi (by simp) hb (fun b hb=>World.putObj_heap_other hb) (by simp) ⟨b,h3,World.putObj_heap_same hlt1⟩
  ·simp only[hgd];refine Rel.tuple rfl fun z hz=> ?_
   match z,hz with
   |0,_=>exact .bool _
   |1,_=>show Rel _ _ _ e.key;rw[q4];exact .str _
   |2,_=>exact q5
theorem sem_entryS{ks:List ByteArray}{vs:List V}{q i:Nat}{x:Operand}{seen:Array Nat}{j:Nat}(hq:h[q]? =some (.maps (kS ks) vs))(hi:h[i]? =some (.iter (.map q) ks.length seen))(hj:seen.back? =some j)(hjm:j<ks.length):
  SemOK P (.entry x) [(x,.ref i 0 0)] h (.tuple [.str (ks.getD j ByteArray.empty),vs.getD j .undef]) h:=fun β G K w ρ' oper ho _ r hr=>by
 have hp:=hr (x,.ref i 0 0) (by simp);obtain⟨y,b,es,hb,he,h1,h2,h3,hs,hes⟩:=homes_iterS r hq hi hp;simp only at he;have hg1:(getObj y.b).run P w=.ok (.mapIter (some b) ks.length seen ks.length) w:=by simp[getObj,Sem.run,h1]
 have hg2:(getObj b).run P w=.ok (.map es (kS ks).length) w:=MapKept.run_getObj_map h2;obtain⟨e,g1,g2,g3,g4⟩:=hes j (.string ks[j]) (by simp[kS,hjm])
 have hfind:es.find? (fun e=>e.born==j)=some e:=by
  cases hf:es.find? (fun e=>e.born==j)with
  |none=>
   rw[Array.find?_eq_none]at hf;exact absurd (hf e (Array.mem_of_getElem? g1)) (by simp[g3])
  |some e'=>
   have hm:=Array.mem_of_find?_eq_some hf;have hb':=Array.find?_some hf;obtain⟨j0,q1,q2,q3,q4,q5⟩:=born_ltS hs hes (Array.mem_toList_iff.2 hm);have:j0=j:=by rw[<-q3];simpa using hb'
   subst this;rw[g1]at q1;exact q1.symm▸rfl
 have hkey:e.key=.string (ks.getD j ByteArray.empty):=by rw[g2,gE,List.getElem?_eq_getElem hjm];rfl
 refine opOK_value (y:=.tuple #[e.key,e.val]) r ?_ (.tuple rfl fun k hk=> ?_)
 ·simp only[execOp,ho,he,Instr.entry,Sem.run_bind,hg1,Result.andThen_ok,hj,hg2,hfind,Sem.run_pure];simp[kS_len]
 ·match k,hk with
  |0,_=>show Rel _ _ _ e.key;rw[hkey];exact .str _
  |1,_=>exact g4
end
abbrev MS:=List (ByteArray × Int)
def entsS(M:MS):Array MapEntry:=((List.range M.length).map fun j=>({key:=.string (M.getD j (ByteArray.empty,0)).1,val:=.int .i64 (M.getD j (ByteArray.empty,0)).2,born:=j}:MapEntry)).toArray
def mT(M:MS):Obj:=.map (entsS M) M.length
def mS(M:MS):Blk:=.maps (kS (M.map (·.1))) (M.map fun p=>.int .i64 p.2)
theorem entsS_size(M:MS):(entsS M).size=M.length:=by simp[entsS]
theorem entsS_get(M:MS)(j:Nat)(hj:j<M.length):(entsS M)[j]? =some {key:=.string M[j].1,val:=.int .i64 M[j].2,born:=j}:=by
 have e:M.getD j (ByteArray.empty,0)=M[j]:=by rw[gE,List.getElem?_eq_getElem hj];rfl
 rw[<-e];simp[entsS,hj]
theorem blk_mS{G:Kept}{β:Homes}{w:World}{M:MS}{x:Hm}:BlkOK G β w (.obj (mT M)) x↔BlkOK G β w (mS M) x:=by
 cases x with
 |void=>exact Iff.rfl
 |nil=>exact Iff.rfl
 |ext l=>exact Iff.rfl
 |lie x=>
  have hl:(kS (M.map (·.1))).length=M.length:=by rw[kS_len,List.length_map]
  constructor
  ·intro(h:w.heap[x.b]? =some (mT M));refine⟨entsS M,by rw[hl];exact h,by rw[hl];exact entsS_size M,fun j k hj=> ?_⟩;have hjl:j<M.length:=by rw[<-hl];exact(List.getElem?_eq_some_iff.1 hj).1
   refine⟨_,entsS_get M j hjl,?_,rfl,?_⟩
   ·simp[kS,hjl]at hj;exact hj
   ·have:(M.map fun p=>(.int .i64 p.2:V)).getD j .undef=.int .i64 M[j].2:=by simp[gE,hjl]
    rw[this];exact .int _ _
  ·rintro⟨es,h1,h2,h3⟩
   show w.heap[x.b]? =some (mT M);rw[hl]at h1 h2
   have:es=entsS M:=by
    apply Array.ext
    ·rw[h2,entsS_size]
    ·intro j q1 q2;have hjl:j<M.length:=by omega
     obtain⟨e,g1,g2,g3,g4⟩:=h3 j (.string M[j].1) (by simp[kS,hjl]);have hv:(M.map fun p=>(.int .i64 p.2:V)).getD j .undef=.int .i64 M[j].2:=by simp[gE,hjl]
     rw[hv]at g4;have g5:=rel_int_inv g4;have e2:=entsS_get M j hjl;rw[Array.getElem?_eq_getElem q1]at g1;rw[Array.getElem?_eq_getElem q2]at e2;cases g1;rw[Option.some.inj e2]
     cases hes:es[j]with
     |mk a b c=>rw[hes]at g2 g3 g5;simp only at g2 g3 g5;rw[g2,g3,g5]
   rw[h1,this];rfl
def Sw(h h':List Blk):Prop:=h.length=h'.length/\∀i:Nat,h[i]? =h'[i]?\/∃M,(h[i]? =some (.obj (mT M))/\h'[i]? =some (mS M))\/(h[i]? =some (mS M)/\h'[i]? =some (.obj (mT M)))
theorem Sw.symm{h h':List Blk}(s:Sw h h'):Sw h' h:=⟨s.1.symm,fun i=>(s.2 i).imp Eq.symm fun⟨M,q⟩=>⟨M,q.symm.imp (fun⟨a,b⟩=>⟨b,a⟩) (fun⟨a,b⟩=>⟨b,a⟩)⟩⟩
theorem Sw.rh{β:Homes}{G K:Kept}{h h':List Blk}{w:World}(s:Sw h h')(r:RH β G K h w):RH β G K h' w:=by
 have look:∀(i:Nat) (k':Blk),h'[i]? =some k'->∃k,h[i]? =some k/\(BlkOK G β w k (β[i]?.getD .void)->BlkOK G β w k' (β[i]?.getD .void))/\(k'≠ .gone->k≠ .gone):=fun i k' hk=>by
  rcases s.2 i with e|⟨M,⟨e1,e2⟩|⟨e1,e2⟩⟩
  ·exact⟨k',e.trans hk,id,id⟩
  ·rw[e2]at hk;cases hk;exact⟨_,e1,blk_mS.1,fun _=>by simp⟩
  ·rw[e2]at hk;cases hk;exact⟨_,e1,blk_mS.2,fun _=>by simp[mS]⟩
 refine⟨r.len.trans s.1,fun i k hk=> ?_,fun i j x y k k' hi hj g g' hx hy e=> ?_,fun i x k hi g hx=> ?_,r.keep,r.gk,r.amb,fun i X tr hi=> ?_⟩
 ·obtain⟨k0,a,b,_⟩:=look i k hk;exact b (r.blk i k0 a)
 ·obtain⟨k0,a,_,c⟩:=look i k hi;obtain⟨k1,a',_,c'⟩:=look j k' hj;exact r.inj i j x y k0 k1 a a' (c g) (c' g') hx hy e
 ·obtain⟨k0,a,_,c⟩:=look i k hi;exact r.sep i x k0 a (c g) hx
 ·have hi':h[i]? =some (.ext X tr):=by
   rcases s.2 i with e|⟨M,⟨e1,e2⟩|⟨e1,e2⟩⟩
   ·exact e.trans hi
   ·rw[e2]at hi;cases hi
   ·rw[e2]at hi;cases hi
  obtain⟨l,E,h1,h2,h3,h4⟩:=r.ext i X tr hi'
  exact⟨l,E,h1,h2,h3,fun b hb=>⟨(h4 b hb).1,fun j x k hj g hx=>by
   obtain⟨k0,a,_,c⟩:=look j k hj
   exact(h4 b hb).2 j x k0 a (c g) hx⟩⟩
section
variable {P:Program}
theorem SemOK.sw{o:Op}{us:List (Operand × V)}{v:V}{h h2 h' h2':List Blk}(hs:SemOK P o us h2 v h2')(s:Sw h h2)(s':Sw h' h2'):SemOK P o us h v h':=fun β G K w ρ' oper ho hc r hr=>by
 obtain⟨nx,w',β',h1,hb,h3,h4⟩:=hs β G K w ρ' oper ho hc (s.rh r) hr;exact⟨nx,w',β',h1,hb,s'.symm.rh h3,h4⟩
theorem sw_set{h:List Blk}{q:Nat}{M:MS}(hq:h[q]? =some (.obj (mT M))):Sw h (h.set q (mS M)):=by
 refine⟨by simp,fun i=> ?_⟩;by_cases e:q=i
 ·subst e;exact .inr ⟨M,.inl ⟨hq,List.getElem?_set_self (List.getElem?_eq_some_iff.1 hq).1⟩⟩
 ·exact .inl (by rw[sN e])
theorem sw_set2{h:List Blk}{q:Nat}{M':MS}(hq:q<h.length):Sw (h.set q (.obj (mT M'))) (h.set q (mS M')):=by
 refine⟨by simp,fun i=> ?_⟩;by_cases e:q=i
 ·subst e;exact .inr ⟨M',.inl ⟨List.getElem?_set_self hq,List.getElem?_set_self hq⟩⟩
 ·exact .inl (by rw[sN e,sN e])
def idxN(M:MS)(s:ByteArray):Nat:=M.findIdx fun p=>decide (p.1=s)
def cntN(M:MS)(s:ByteArray):Int:=(M.getD (idxN M s) (s,0)).2
def addN(M:MS)(s:ByteArray):MS:=if idxN M s<M.length then M.set (idxN M s) (s,cntN M s+1)else M++ [(s,1)]
theorem idxN_cases(M:MS)(s:ByteArray):(∃hj:idxN M s<M.length,M[idxN M s].1=s/\∀i,(hi:i<M.length)->i<idxN M s->M[i].1≠s)\/(idxN M s=M.length/\∀p∈M,p.1≠s):=by
 unfold idxN;by_cases h:M.findIdx (fun p=>decide (p.1=s))<M.length
 ·exact .inl ⟨h,by have:=List.findIdx_getElem (w:=h);simpa using this,fun i hi hlt=>by have:=List.not_of_lt_findIdx hlt;simpa using this⟩
 ·right
  have e:M.findIdx (fun p=>decide (p.1=s))=M.length:=Nat.le_antisymm List.findIdx_le_length (Nat.le_of_not_lt h);refine⟨e,fun p hp hs=> ?_⟩;exact absurd (List.findIdx_lt_length.2 ⟨p,hp,by simpa using hs⟩) h
variable {h:List Blk} {t kt et:TypeId} {M:MS} {q:Nat} {x y z:Operand}
theorem keyN{M:MS}{s:ByteArray}(hj:idxN M s<M.length)(hs:M[idxN M s].1=s)(hn:∀i,(hi:i<M.length)->i<idxN M s->M[i].1≠s):(M.map (·.1))[idxN M s]? =some s/\∀i,i<idxN M s->(M.map (·.1))[i]?≠some s:=by
 refine⟨by rw[List.getElem?_map,List.getElem?_eq_getElem hj];exact congrArg some hs,fun i hi e=> ?_⟩;rw[List.getElem?_map,List.getElem?_eq_getElem (by omega)]at e;exact hn i (by omega) hi (Option.some.inj e)
theorem noN{M:MS}{s:ByteArray}(hn:∀p∈M,p.1≠s):s∉M.map (·.1):=fun e=>by
 obtain⟨p,hp,e2⟩:=List.mem_map.1 e;exact hn p hp e2
theorem semT_make(t:TypeId):SemOK P (.makeMap t none) [] h (.map h.length) (h++ [.obj (mT [])]):=by
 refine SemOK.sw (sem_makeMapV t) ⟨rfl,fun i=>.inl rfl⟩ ⟨by simp,fun i=> ?_⟩;rcases Nat.lt_trichotomy i h.length with q|q|q
 ·exact .inl (by rw[aL q,aL q])
 ·subst q;exact .inr ⟨[],.inl ⟨by simp,by simp[mS,kS]⟩⟩
 ·exact .inl (by rw[List.getElem?_eq_none (by simp;omega),List.getElem?_eq_none (by simp;omega)])
theorem semT_lookup(ht:P.underlying t=some (.map kt et))(hk:P.underlying kt=some .string)(hz:(P.info? et).bind (·.zero)=some (.int .i64 0))(hq:h[q]? =some (.obj (mT M)))(s:ByteArray):
  SemOK P (.lookup t x y false) [(x,.map q),(y,.str s)] h (.int .i64 (cntN M s)) h:=by
 have hql:=(List.getElem?_eq_some_iff.1 hq).1;have hq2:(h.set q (mS M))[q]? =some (mS M):=List.getElem?_set_self hql;rcases idxN_cases M s with⟨hj,hs,hn⟩|⟨he,hn⟩
 ·obtain⟨k1,k2⟩:=keyN hj hs hn;have:=sem_lookupS1 (P:=P) (x:=x) (y:=y) ht hk hq2 k1 k2
  have e:(M.map fun p=>(.int .i64 p.2:V)).getD (idxN M s) .undef=.int .i64 (cntN M s):=by
   unfold cntN;simp[gE,hj]
  rw[e]at this;exact this.sw (sw_set hq) (sw_set hq)
 ·have:=sem_lookupS0 (P:=P) (x:=x) (y:=y) ht hk hz hq2 (noN hn);have e:cntN M s=0:=by unfold cntN;rw[he];simp[gE]
  rw[e];exact this.sw (sw_set hq) (sw_set hq)
theorem semT_update(ht:P.underlying t=some (.map kt et))(hk:P.underlying kt=some .string)(hq:h[q]? =some (.obj (mT M)))(s:ByteArray):
  SemOK P (.mapUpdate t x y z) [(x,.map q),(y,.str s),(z,.int .i64 (cntN M s+1))] h .undef (h.set q (.obj (mT (addN M s)))):=by
 have hql:=(List.getElem?_eq_some_iff.1 hq).1;have hq2:(h.set q (mS M))[q]? =some (mS M):=List.getElem?_set_self hql
 have key:SemOK P (.mapUpdate t x y z) [(x,.map q),(y,.str s),(z,.int .i64 (cntN M s+1))] (h.set q (mS M)) .undef ((h.set q (mS M)).set q (mS (addN M s))):=by
  rcases idxN_cases M s with⟨hj,hs,hn⟩|⟨he,hn⟩
  ·obtain⟨k1,k2⟩:=keyN hj hs hn;have:=sem_updateS1 (P:=P) (x:=x) (y:=y) (z:=z) (v:=.int .i64 (cntN M s+1)) ht hk hq2 (by simp) k1 k2
   have e:mS (addN M s)=.maps (kS (M.map (·.1))) ((M.map fun p=>(.int .i64 p.2:V)).set (idxN M s) (.int .i64 (cntN M s+1))):=by
    unfold addN mS;rw[if_pos hj,List.map_set,List.map_set];congr 2
    apply List.ext_getElem?;intro i;by_cases hi:idxN M s=i
    ·subst hi;rw[List.getElem?_set_self (by simpa using hj),k1]
    ·rw[sN hi]
   rw[e];exact this
  ·have:=sem_updateS (P:=P) (x:=x) (y:=y) (z:=z) (v:=.int .i64 (cntN M s+1)) ht hk hq2 (by simp) (noN hn);have e0:cntN M s=0:=by unfold cntN;rw[he];simp[gE]
   have e:mS (addN M s)=.maps (kS (M.map (·.1)++ [s])) ((M.map fun p=>(.int .i64 p.2:V))++ [.int .i64 (cntN M s+1)]):=by
    unfold addN mS;rw[if_neg (by omega),List.map_append,List.map_append,e0];rfl
   rw[e];exact this
 have s2:Sw (h.set q (.obj (mT (addN M s)))) ((h.set q (mS M)).set q (mS (addN M s))):=by
  rw[List.set_set];exact sw_set2 hql
 exact key.sw (sw_set hq) s2
theorem semT_range(ht:P.underlying t=some (.map kt et))(hq:h[q]? =some (.obj (mT M))):SemOK P (.range t x) [(x,.map q)] h (.ref h.length 0 0) (h++ [.iter (.map q) M.length #[]]):=by
 have hql:=(List.getElem?_eq_some_iff.1 hq).1;have hq2:(h.set q (mS M))[q]? =some (mS M):=List.getElem?_set_self hql;have:=sem_rangeS (P:=P) (x:=x) ht hq2;rw[List.length_set,List.length_map]at this;refine this.sw (sw_set hq) ?_;have e:h.set q (mS M)++ [Blk.iter (.map q) M.length #[]]=(h++ [Blk.iter (.map q) M.length #[]]).set q (mS M):=by rw[List.set_append_left _ _ hql]
 rw[e];exact sw_set (by rw[aL hql];exact hq)
theorem semT_next0{i:Nat}{seen:Array Nat}(hq:h[q]? =some (.obj (mT M)))(hi:h[i]? =some (.iter (.map q) M.length seen))(h0:leftM M.length seen=[]):
  SemOK P (.next x false) [(x,.ref i 0 0)] h (.tuple [.bool false]) h:=by
 have hql:=(List.getElem?_eq_some_iff.1 hq).1;have hq2:(h.set q (mS M))[q]? =some (mS M):=List.getElem?_set_self hql;have hne:q≠i:=fun e=>by subst e;rw[hq]at hi;cases hi
 have hml:(M.map (·.1)).length=M.length:=List.length_map _;refine(sem_next0S (P:=P) (x:=x) (ks:=M.map (·.1)) (seen:=seen) hq2 (i:=i) ?_ ?_).sw (sw_set hq) (sw_set hq)
 ·rw[sN hne,hml];exact hi
 ·rw[hml];exact h0
theorem semT_next1{i:Nat}{seen:Array Nat}(hq:h[q]? =some (.obj (mT M)))(hi:h[i]? =some (.iter (.map q) M.length seen))(h0:leftM M.length seen≠ []):
  SemAny P (.next x false) [(x,.ref i 0 0)] h (leftM M.length seen).length (fun j=>.tuple [.bool true,.str (M.getD ((leftM M.length seen).getD j 0) (ByteArray.empty,0)).1,.int .i64 (M.getD ((leftM M.length seen).getD j 0) (ByteArray.empty,0)).2])
   (fun j=>h.set i (.iter (.map q) M.length (seen.push ((leftM M.length seen).getD j 0)))):=by
 have hql:=(List.getElem?_eq_some_iff.1 hq).1;have hq2:(h.set q (mS M))[q]? =some (mS M):=List.getElem?_set_self hql;have hne:q≠i:=fun e=>by subst e;rw[hq]at hi;cases hi
 have hml:(M.map (·.1)).length=M.length:=List.length_map _;have key:=sem_next1S (P:=P) (x:=x) (ks:=M.map (·.1)) (vs:=M.map fun p=>.int .i64 p.2) (seen:=seen) hq2 (i:=i) (by rw[sN hne,hml];exact hi) (by rw[hml];exact h0);rw[hml]at key
 have e:∀j,j<(leftM M.length seen).length->(V.tuple [.bool true,.str ((M.map (·.1)).getD ((leftM M.length seen).getD j 0) ByteArray.empty),(M.map fun p=>(.int .i64 p.2:V)).getD ((leftM M.length seen).getD j 0) .undef])=.tuple [.bool true,.str (M.getD ((leftM M.length seen).getD j 0) (ByteArray.empty,0)).1,.int .i64 (M.getD ((leftM M.length seen).getD j 0) (ByteArray.empty,0)).2]:=fun j hj=>by
  have hm:(leftM M.length seen).getD j 0<M.length:=by
   have:(leftM M.length seen).getD j 0∈leftM M.length seen:=by rw[gE,List.getElem?_eq_getElem hj];exact List.getElem_mem hj
   simp only[leftM,List.mem_filter,List.mem_range]at this;exact this.1
  generalize(leftM M.length seen).getD j 0=i at hm
  simp[gE,hm]
 intro β G K w ρ' oper ho hc r hr;obtain⟨j,hj,nx,w',β',h1,hb,h3,h4⟩:=key β G K w ρ' oper ho hc ((sw_set hq).rh r) hr;refine⟨j,hj,nx,w',β',h1,hb,?_,?_⟩
 ·refine Sw.rh ?_ h3;refine Sw.symm ?_;show Sw (h.set i _) ((h.set q (mS M)).set i _);rw[List.set_comm _ _ hne];exact sw_set (by rw[sN (Ne.symm hne)];exact hq)
 ·have h5:=e j hj;simp only at h4⊢;rw[<-h5];exact h4
theorem semT_entry{i:Nat}{seen:Array Nat}{j:Nat}(hq:h[q]? =some (.obj (mT M)))(hi:h[i]? =some (.iter (.map q) M.length seen))(hj:seen.back? =some j)(hjm:j<M.length):
  SemOK P (.entry x) [(x,.ref i 0 0)] h (.tuple [.str (M.getD j (ByteArray.empty,0)).1,.int .i64 (M.getD j (ByteArray.empty,0)).2]) h:=by
 have hql:=(List.getElem?_eq_some_iff.1 hq).1;have hq2:(h.set q (mS M))[q]? =some (mS M):=List.getElem?_set_self hql;have hne:q≠i:=fun e=>by subst e;rw[hq]at hi;cases hi
 have hml:(M.map (·.1)).length=M.length:=List.length_map _;have key:=sem_entryS (P:=P) (x:=x) (ks:=M.map (·.1)) (vs:=M.map fun p=>.int .i64 p.2) (seen:=seen) hq2 (i:=i) (by rw[sN hne,hml];exact hi) hj (by rw[hml];exact hjm)
 have e:(V.tuple [.str ((M.map (·.1)).getD j ByteArray.empty),(M.map fun p=>(.int .i64 p.2:V)).getD j .undef])=.tuple [.str (M.getD j (ByteArray.empty,0)).1,.int .i64 (M.getD j (ByteArray.empty,0)).2]:=by
  simp[gE,hjm]
 rw[e]at key;exact key.sw (sw_set hq) (sw_set hq)
end
end Ab
namespace Go.Proofs.YtemgodefhcbleaaGreat
open Ab Go
noncomputable section
theorem map_take_len{τ υ:Type}(f:τ->υ)(l:List τ)(i:Nat)(hi:i<=l.length):((l.map f).take i).reverse.length=i:=by simp;omega
theorem PCalls.arg{P:Program}{f:FuncId}{pre suf:List V}{a a':V}{post:V->Prop}(h:PCalls P f (pre++a::suf) post)(hv:VLe a' a):PCalls P f (pre++a'::suf) post:=by
 refine h.vle (by simp) fun j hj=> ?_;by_cases h1:j<pre.length
 ·simp only[gE,aL h1];exact VLe.refl _
 ·by_cases h2:j=pre.length
  ·subst h2;simpa using hv
  ·obtain⟨k,hk⟩:∃k,j-pre.length=k+1:=⟨j-pre.length-1,by omega⟩
   simp only[gE,List.getElem?_append_right (Nat.le_of_not_lt h1),hk,List.getElem?_cons_succ];exact VLe.refl _
inductive P96
 |e
inductive R96
 |r0 (r0:Bool)
def T96(p0:Int)(p1:Int)(p2:Int):P96->Tr P96 R96
 |.e=>(.br (decide (p0≥p1)) (.out (.r0 (decide (p0<=p2)))) (.out (.r0 false)))
noncomputable def g96(p0:Int)(p1:Int)(p2:Int):P96->List Item × St
 |.e=>bd Tryz.f96 [iI p0,iI p1,iI p2] 12
def n96:R96->Exit × St
 |.r0 r0=>(.ret,⟨mk 15 [(6,.bool r0)],[],[]⟩)
def v96:R96->V
 |.r0 r0=>.bool r0
theorem s96(p0:Int)(p1:Int)(p2:Int):Sm 0 (g96 p0 p1 p2) (T96 p0 p1 p2) (n96)
 |.e=>⟨400,by kernel_rfl⟩
theorem q96:∀r,bodyQ Tryz.prog Tryz.f96 (·=v96 r) (n96 r).1 (n96 r).2
 |.r0 r0=>bq (.bool r0) (by kernel_rfl)
theorem w96(p0:Int)(p1:Int)(p2:Int){post:V->Prop}(h:WQ (T96 p0 p1 p2) v96 post .e):PC 96 [iI p0,iI p1,iI p2] post:=
 PCalls.wq Tryz.func96 (s96 p0 p1 p2) q96 h
theorem c96(n a b:Int):PC 96 [iI n,iI a,iI b] (·=.bool (within n a b)):=by
 refine w96 _ _ _ (WP.step ?_);simp only[T96,Go,Ends',v96,Tr.sure,SS];repeat' with_reducible first|intro _|apply aI
 all_goals simp[within,GE.ge,Go,Ends',v96,-List.getD_eq_getElem?_getD, *]
 all_goals simp_all [within]
inductive P108
 |e
inductive R108
 |r0 (r0:Bool)
def T108(p0:Int)(p1:Int)(p2:Int):P108->Tr P108 R108
 |.e=>(.br (decide (p0≥p1)) (.out (.r0 (decide (p0<=p2)))) (.out (.r0 false)))
noncomputable def g108(p0:Int)(p1:Int)(p2:Int):P108->List Item × St
 |.e=>bd Tryz.f108 [iI p0,iI p1,iI p2] 12
def n108:R108->Exit × St
 |.r0 r0=>(.ret,⟨mk 15 [(6,.bool r0)],[],[]⟩)
def v108:R108->V
 |.r0 r0=>.bool r0
theorem s108(p0:Int)(p1:Int)(p2:Int):Sm 0 (g108 p0 p1 p2) (T108 p0 p1 p2) (n108)
 |.e=>⟨400,by kernel_rfl⟩
theorem q108:∀r,bodyQ Tryz.prog Tryz.f108 (·=v108 r) (n108 r).1 (n108 r).2
 |.r0 r0=>bq (.bool r0) (by kernel_rfl)
theorem w108(p0:Int)(p1:Int)(p2:Int){post:V->Prop}(h:WQ (T108 p0 p1 p2) v108 post .e):PC 108 [iI p0,iI p1,iI p2] post:=
 PCalls.wq Tryz.func108 (s108 p0 p1 p2) q108 h
theorem c108(n a b:Int):PC 108 [iI n,iI a,iI b] (·=.bool (within n a b)):=by
 refine w108 _ _ _ (WP.step ?_);simp only[T108,Go,Ends',v108,Tr.sure,SS];repeat' with_reducible first|intro _|apply aI
 all_goals simp[within,GE.ge,Go,Ends',v108,-List.getD_eq_getElem?_getD, *]
 all_goals simp_all [within]
theorem data_len(s:ByteArray):s.data.toList.length=s.size:=rfl
theorem data_get(s:ByteArray)(i:Nat):s.data.getD i 0=s.data.toList.getD i 0:=by simp
theorem inR8(c:UInt8):inR .i64 (c.toNat:Int)=true:=inR64 (by omega) (by have:=c.toNat_lt;omega)
inductive P87
 |e
 |l0 (x0_3:Int)
inductive R87
 |r0 (r0:Bool)
def T87(p0:ByteArray):P87->Tr P87 R87
 |.e=>(.br ((p0.size:Int)==(0:Int)) (.lit true (.out (.r0 false))) (.br (decide ((p0.size:Int)>(16:Int))) (.out (.r0 false)) (.go (.l0 0))))
 |.l0 x0_3=>let c1:=((p0.data.getD (x0_3).toNat 0).toNat:Int);let c2:Tr P87 R87:=.need (inR .i64 (x0_3+(1:Int))) (.go (.l0 (x0_3+(1:Int))));let c3:=decide (0<=x0_3)&&decide (x0_3<(p0.size:Int));let c4:Tr P87 R87:=.lit true (.lit true (.out (.r0 false)));let c5:=within c1 97 122;let c6:Tr P87 R87:=.lit false (.lit false c2);(.br (decide (x0_3<(p0.size:Int))) (.need c3 (.need (inR .i64 c1) (.call 96 [iI c1,iI 97,iI 122] (.bool c5) true true (.need c3 (.need (inR .i64 c1) (.call 96 [iI c1,iI 48,iI 57] (.bool (within c1 48 57)) true true (.br (within c1 48 57) (.br (!c5) (.br (x0_3==(0:Int)) c4 (.lit true (.lit false c2))) c6) (.need c3 (.br (!c5) (.br (x0_3==(0:Int)) c4 (.lit true (.br (!(c1==(46:Int))) (.out (.r0 false)) c2))) c6))))))))) (.out (.r0 true)))
noncomputable def g87(p0:ByteArray):P87->List Item × St
 |.e=>bd Tryz.f87 [.str p0] 45
 |.l0 x0_3=>(cutOf Tryz.f87 0,⟨mk 46 [(0,.str p0),(2,.bool false),(3,iI x0_3)],[],[]⟩)
def n87:R87->Exit × St
 |.r0 r0=>(.ret,⟨mk 46 [(2,.bool r0)],[],[]⟩)
def v87:R87->V
 |.r0 r0=>.bool r0
theorem s87(p0:ByteArray):Sm 0 (g87 p0) (T87 p0) (n87)
 |.e=>⟨400,by kernel_rfl⟩
 |.l0 _=>⟨400,by kernel_rfl⟩
theorem q87:∀r,bodyQ Tryz.prog Tryz.f87 (·=v87 r) (n87 r).1 (n87 r).2
 |.r0 r0=>bq (.bool r0) (by kernel_rfl)
theorem w87(p0:ByteArray){post:V->Prop}(h:WQ (T87 p0) v87 post .e):PC 87 [.str p0] post:=
 PCalls.wq Tryz.func87 (s87 p0) q87 h
theorem c87(s:ByteArray):PC 87 [.str s] (·=.bool (nameOk s)):=by
 refine w87 _ (WP.step ?_);simp only[T87,Tr.sure,Go,Ends',v87];refine⟨fun h=> ?_,fun h0=>⟨fun h=> ?_,fun h1=> ?_⟩⟩
 ·simp at h;simp[nameOk,h]
 ·simp at h;simp[nameOk];omega
 simp only[beq_eq_false_iff_ne,ne_eq,decide_eq_false_iff_not,Int.not_lt,gt_iff_lt]at h0 h1;have hs:s.size<=16:=by omega
 have hn:nameOk s=nameFrom true s.data.toList:=by
  have h0':s.size≠0:=by omega
  simp[nameOk,hs,h0']
 refine WP.count (fun i=>.l0 i) rfl s.size (fun i=>nameFrom true s.data.toList=nameFrom (i==0) (s.data.toList.drop i)) rfl (fun i hi hI=> ?_) fun hI=> ?_
 ·have hd:=drop_cons 0 s.data.toList i hi;have hr:inR .i64 ((i:Int)+1)=true:=inR64 (by omega) (by omega);have hc:=inR8 (s.data.toList.getD i 0);rw[hd]at hI;simp only[nameFrom]at hI;generalize hg:s.data.toList.getD i 0=c at*
  refine WP.once ?_;simp only[T87,Tr.sure,SS,hi,data_get,hg];repeat' with_reducible first|intro _|apply aI
  all_goals first|exact c96 _ _ _|(simp[hr,hc,hI,hn,letter,other,Go,Ends',v87,-List.getD_eq_getElem?_getD, *];done)
 ·have he:nameFrom (s.size==0) (s.data.toList.drop s.size)=true:=by rw[<-data_len,List.drop_length];rfl
  refine WP.step ?_;simp only[T87,Go,Ends',v87,Tr.sure,SS];repeat' with_reducible first|intro _|apply aI
  all_goals simp[hn,hI,he,Go,Ends',v87,-List.getD_eq_getElem?_getD, *]
theorem tstr_zero:tstr.zero=ByteArray.empty:=rfl
inductive P46
 |e
 |l0 (x0_5:Int)
inductive R46
 |r0 (r0:Int)
def T46(p0:List ByteArray)(p1:ByteArray):P46->Tr P46 R46
 |.e=>(.go (.l0 0))
 |.l0 x0_5=>let c1:=x0_5<(p0.length:Int);(.br (decide c1) (.need (decide (0<=x0_5)&&decide c1) (.br ((p0.getD (x0_5).toNat tstr.zero).toList==p1.toList) (.out (.r0 x0_5)) (.need (inR .i64 (x0_5+(1:Int))) (.go (.l0 (x0_5+(1:Int))))))) (.out (.r0 (-1))))
noncomputable def g46(p0:List ByteArray)(p1:ByteArray):P46->List Item × St
 |.e=>bd Tryz.f46 [tstr.lst p0,.str p1] 17
 |.l0 x0_5=>(cutOf Tryz.f46 0,⟨mk 19 [(0,tstr.lst p0),(1,.str p1),(4,iI 0),(5,iI x0_5)],[],[]⟩)
def n46:R46->Exit × St
 |.r0 r0=>(.ret,⟨mk 19 [(4,iI r0)],[],[]⟩)
def v46:R46->V
 |.r0 r0=>iI r0
theorem s46(p0:List ByteArray)(p1:ByteArray):Sm 0 (g46 p0 p1) (T46 p0 p1) (n46)
 |.e=>⟨400,by kernel_rfl⟩
 |.l0 _=>⟨400,by kernel_rfl⟩
theorem q46:∀r,bodyQ Tryz.prog Tryz.f46 (·=v46 r) (n46 r).1 (n46 r).2
 |.r0 r0=>bq (iI r0) (by kernel_rfl)
theorem w46(p0:List ByteArray)(p1:ByteArray){post:V->Prop}(h:WQ (T46 p0 p1) v46 post .e):PC 46 [tstr.lst p0,.str p1] post:=
 PCalls.wq Tryz.func46 (s46 p0 p1) q46 h
theorem c46(l:List ByteArray)(n:ByteArray)(h:l.length<=1000):PC 46 [tstr.lst l,.str n] (·=iI (indexS l n)):=by
 refine w46 _ _ (WP.step ?_);simp only[T46,Go,Ends',v46,Tr.sure,SS];repeat' with_reducible first|intro _|apply aI
 refine WP.findI (fun i=>.l0 i) rfl l ByteArray.empty (fun o=>same o n) (fun i hi=> ?_) fun hI=> ?_
 ·have hr:inR .i64 ((i:Int)+1)=true:=inR64 (by omega) (by omega);refine WP.once ?_;simp only[T46,Tr.sure,SS,hi];repeat' with_reducible first|intro _|apply aI
  all_goals first|(simp[hr,same,tstr_zero,indexS,Go,Ends',v46,-List.getD_eq_getElem?_getD, *];done)|(simp_all [hr,same,tstr_zero,indexS,Go,Ends',v46,-List.getD_eq_getElem?_getD];done)
 ·refine WP.step ?_;simp only[T46,Go,Ends',v46,Tr.sure,SS];repeat' with_reducible first|intro _|apply aI
  all_goals simp[hI,indexS,Go,Ends',v46,-List.getD_eq_getElem?_getD, *]
theorem indexS_ge(l:List ByteArray)(n:ByteArray):(0<=indexS l n)↔l.any (fun o=>same o n)=true:=by
 rw[<-firstI_any _ l 0,indexS];cases firstI (fun o=>same o n) 0 l<;>simp
inductive P71
 |e
inductive R71
 |r0 (r0:Int)
def T71(p0:ByteArray)(p1:List ByteArray):P71->Tr P71 R71
 |.e=>(.call 87 [.str p0] (.bool (nameOk p0)) true true (.br (!(nameOk p0)) (.out (.r0 6)) (.call 46 [tstr.lst p1,.str p0] (iI (indexS p1 p0)) true true (.br (decide ((indexS p1 p0)≥(0:Int))) (.out (.r0 5)) (.out (.r0 0))))))
noncomputable def g71(p0:ByteArray)(p1:List ByteArray):P71->List Item × St
 |.e=>bd Tryz.f71 [.str p0,tstr.lst p1] 10
def n71:R71->Exit × St
 |.r0 r0=>(.ret,⟨mk 12 [(4,iI r0)],[],[]⟩)
def v71:R71->V
 |.r0 r0=>iI r0
theorem s71(p0:ByteArray)(p1:List ByteArray):Sm 0 (g71 p0 p1) (T71 p0 p1) (n71)
 |.e=>⟨400,by kernel_rfl⟩
theorem q71:∀r,bodyQ Tryz.prog Tryz.f71 (·=v71 r) (n71 r).1 (n71 r).2
 |.r0 r0=>bq (iI r0) (by kernel_rfl)
theorem w71(p0:ByteArray)(p1:List ByteArray){post:V->Prop}(h:WQ (T71 p0 p1) v71 post .e):PC 71 [.str p0,tstr.lst p1] post:=
 PCalls.wq Tryz.func71 (s71 p0 p1) q71 h
theorem c71(n:ByteArray)(l:List ByteArray)(h:l.length<=1000):PC 71 [.str n,tstr.lst l] (·=iI (newErr n l)):=by
 have hi:=indexS_ge l n;refine w71 _ _ (WP.step ?_);simp only[T71,Go,Ends',v71,Tr.sure,SS];repeat' with_reducible first|intro _|apply aI
 all_goals first|exact c87 _|exact c46 _ _ h|(simp[newErr,Go,Ends',v71,-List.getD_eq_getElem?_getD, *];done)|(simp_all [newErr,Go,Ends',v71,-List.getD_eq_getElem?_getD];done)
theorem c71r(n:ByteArray)(l:List ByteArray)(h:l.length<=1000):PC 71 [.str n,.list 1 l.reverse.length (rowsRev tstr l.reverse)] (·=iI (newErr n l)):=
 PCalls.arg (pre:=[.str n]) (c71 n l h) (by have:=VLe.rev tstr l.reverse;rwa[List.reverse_reverse]at this)
theorem take_eq_snoc{τ:Type}(d:τ){a b:List τ}{i:Nat}(ha:i<a.length)(hb:i<b.length)(h:a.take i=b.take i)(e:a.getD i d=b.getD i d):a.take (i+1)=b.take (i+1):=by
 rw[take_snoc d a i ha,take_snoc d b i hb,h,e]
inductive P24
 |e
 |l0 (x0_5:Bool) (x0_6:Int)
inductive R24
 |r0 (r0:Bool)
def T24(p0:List Int)(p1:List Int):P24->Tr P24 R24
 |.e=>(.go (.l0 ((p0.length:Int)==(p1.length:Int)) 0))
 |.l0 x0_5 x0_6=>let c1:=x0_6<(p0.length:Int);(.br x0_5 (.br (decide c1) (.front [] [] (((decide (0<=x0_6)&&decide c1)&&((decide (0<=x0_6)&&decide (x0_6<(p1.length:Int)))&&true))&&true) true (.need (inR .i64 (x0_6+(1:Int))) (.go (.l0 ((p0.getD (x0_6).toNat tint.zero)==(p1.getD (x0_6).toNat tint.zero)) (x0_6+(1:Int)))))) (.out (.r0 x0_5))) (.lit false (.out (.r0 x0_5))))
noncomputable def g24(p0:List Int)(p1:List Int):P24->List Item × St
 |.e=>bd Tryz.f24 [tint.lst p0,tint.lst p1] 29
 |.l0 x0_5 x0_6=>(cutOf Tryz.f24 0,⟨mk 31 [(0,tint.lst p0),(1,tint.lst p1),(5,.bool x0_5),(6,iI x0_6)],[],[]⟩)
def n24:R24->Exit × St
 |.r0 r0=>(.ret,⟨mk 31 [(4,.bool r0)],[],[]⟩)
def v24:R24->V
 |.r0 r0=>.bool r0
theorem s24(p0:List Int)(p1:List Int):Sm 0 (g24 p0 p1) (T24 p0 p1) (n24)
 |.e=>⟨400,by kernel_rfl⟩
 |.l0 _ _=>⟨400,by kernel_rfl⟩
theorem q24:∀r,bodyQ Tryz.prog Tryz.f24 (·=v24 r) (n24 r).1 (n24 r).2
 |.r0 r0=>bq (.bool r0) (by kernel_rfl)
theorem w24(p0:List Int)(p1:List Int){post:V->Prop}(h:WQ (T24 p0 p1) v24 post .e):PC 24 [tint.lst p0,tint.lst p1] post:=
 PCalls.wq Tryz.func24 (s24 p0 p1) q24 h
theorem e24:∀xs w,(callFunc 24 xs).run Tryz.prog w=.ok (.enter 24 xs) w:=PCalls.enters Tryz.func24 (c:=Tryz.f24.body.getD .skip) (by kernel_rfl) (by kernel_rfl)
theorem c24(a b:List Int):PC 24 [tint.lst a,tint.lst b] (·=.bool (sameI a b)):=by
 refine PCalls.assume e24 0 (by simp) .list fun hl=> ?_
 have hfalse:a≠b->∀i,WP Tryz.prog ⟨none,0⟩ (T24 a b) (Ends' fun r=>v24 r=.bool (sameI a b)) (.l0 false i):=fun h i=>by
  have hs:sameI a b=false:=by simpa[sameI]using h
  refine WP.step ?_;simp only[T24,Go,Ends',v24,Tr.sure,SS];repeat' with_reducible first|intro _|apply aI
  all_goals simp[hs,Go,Ends',v24,-List.getD_eq_getElem?_getD, *]
 refine w24 _ _ (WP.step ?_);simp only[T24,Tr.sure,Go];by_cases he:a.length=b.length
 ·have e1:((a.length:Int)==(b.length:Int))=true:=by simp[he]
  rw[e1];refine WP.count (fun i=>.l0 true (i:Int)) rfl a.length (fun i=>a.take i=b.take i) rfl (fun i hi hI=> ?_) fun hI=> ?_
  ·have hb:i<b.length:=by omega
   have hr:=inRi hi hl;have hi':(i:Int)<a.length:=by omega
   have hb':(i:Int)<b.length:=by omega
   by_cases hx:a.getD i 0=b.getD i 0
   ·have hn:=take_eq_snoc 0 hi hb hI hx;refine WP.once ?_;simp only[T24,Tr.sure,SS,hi',hb',hx,z1,beq_self_eq_true];repeat' with_reducible first|intro _|apply aI
    all_goals simp[hr,hn,Go,Ends',v24,-List.getD_eq_getElem?_getD, *]
   ·have hne:a≠b:=fun h=>hx (by rw[h]);have hx2:(a.getD i 0==b.getD i 0)=false:=by simpa using hx
    have hgo:=hfalse hne ((i:Int)+1);refine WP.once ?_;simp only[T24,Tr.sure,SS,hi',hb',hx2,z1];repeat' with_reducible first|intro _|apply aI
    all_goals first|exact(Or.inr hgo)|(simp[hr,Go,Ends',v24,-List.getD_eq_getElem?_getD, *];done)
  ·have heq:a=b:=by rw[List.take_length,he,List.take_length]at hI;exact hI
   have hs:sameI a b=true:=by simpa[sameI]using heq
   refine WP.step ?_;simp only[T24,Go,Ends',v24,Tr.sure,SS,Int.lt_irrefl];repeat' with_reducible first|intro _|apply aI
   all_goals simp_all [hs,Go,Ends',v24,-List.getD_eq_getElem?_getD]
 ·have e1:((a.length:Int)==(b.length:Int))=false:=by simp;omega
  rw[e1];exact hfalse (fun h=>he (by rw[h])) 0
end
noncomputable section
inductive P72
 |e
 |l0 (x0_3:Int)
inductive R72
 |r0 (r0:Int)
def T72(l:List Shown):P72->Tr P72 R72
 |.e=>(.br (decide ((l.length:Int)>(3:Int))) (.out (.r0 3)) (.go (.l0 0)))
 |.l0 x0_3=>let c2:=l.getD (x0_3).toNat tShown.zero;let c3:=decide (0<=x0_3)&&decide (x0_3<(l.length:Int));let c1:Tr P72 R72:=.need c3 (.call 87 [.str (c2.as_)] (.bool (nameOk (c2.as_))) true true (.br (!(nameOk (c2.as_))) (.out (.r0 6)) (.need (inR .i64 (x0_3+(1:Int))) (.go (.l0 (x0_3+(1:Int)))))));let c4:=decide (x0_3>(0:Int));let c5:=x0_3-(1:Int);(.br (decide (x0_3<(l.length:Int))) (.need c3 (.call 108 [iI (c2.day),iI 0,iI 364] (.bool (within (c2.day) 0 364)) true true (.br (!(within (c2.day) 0 364)) (.out (.r0 7)) (.br c4 (.front [] [(2,true)] (((c4==true)&&(c3&&((inR .i64 c5)&&((decide (0<=c5)&&decide (c5<(l.length:Int)))&&true))))&&true) true (.br (decide (c2.day<=(l.getD (c5).toNat tShown.zero).day)) (.out (.r0 2)) c1)) (.front [] [(2,false)] (((c4==false)&&true)&&true) true (.lit false c1)))))) (.out (.r0 0)))
noncomputable def g72(l:List Shown):P72->List Item × St
 |.e=>bd Tryz.f72 [tShown.lst l] 42
 |.l0 x0_3=>(cutOf Tryz.f72 0,⟨mk 43 [(0,tShown.lst l),(3,iI x0_3)],[],[]⟩)
def n72:R72->Exit × St
 |.r0 r0=>(.ret,⟨mk 43 [(2,iI r0)],[],[]⟩)
def v72:R72->V
 |.r0 r0=>iI r0
theorem s72(l:List Shown):Sm 0 (g72 l) (T72 l) (n72)
 |.e=>⟨400,by kernel_rfl⟩
 |.l0 _=>⟨400,by kernel_rfl⟩
theorem q72:∀r,bodyQ Tryz.prog Tryz.f72 (·=v72 r) (n72 r).1 (n72 r).2
 |.r0 r0=>bq (iI r0) (by kernel_rfl)
theorem w72(l:List Shown){post:V->Prop}(h:WQ (T72 l) v72 post .e):PC 72 [tShown.lst l] post:=
 PCalls.wq Tryz.func72 (s72 l) q72 h
theorem c72(l:List Shown):PC 72 [tShown.lst l] (·=iI (shownErr l)):=by
 refine w72 _ (WP.step ?_);simp only[T72,Go,Ends',v72,Tr.sure,SS];repeat' with_reducible first|intro _|apply aI
 all_goals first|(simp[shownErr,Go,Ends',v72,-List.getD_eq_getElem?_getD, *];done)|skip
 rename_i h1;have hm:l.length<=3:=by omega
 refine WP.findE (fun i=>.l0 i) rfl l zShown (shownAt l) (fun i hi=> ?_) fun hI=> ?_
 ·have hr:inR .i64 ((i:Int)+1)=true:=inR64 (by omega) (by omega);have hi':(i:Int)<l.length:=by omega
  by_cases h0:(0:Int)<i
  ·have h0':0<i:=by omega
   have hr2:inR .i64 ((i:Int)-1)=true:=inR64 (by omega) (by omega);have h02:(0:Int)<=(i:Int)-1:=by omega
   have h03:(i:Int)-1<l.length:=by omega
   have hn:((i:Int)-1).toNat=i-1:=by omega
   have e:shownAt l i (l.getD i zShown)=if !within (l.getD i zShown).day 0 364 then 7 else if(l.getD i zShown).day<=(l.getD (i-1) zShown).day then 2 else if !nameOk (l.getD i zShown).as_ then 6 else 0:=by
    unfold shownAt;simp only[h0',true_and]
   generalize shownAt l i (l.getD i zShown)=Z at*
   refine WP.once ?_;simp only[T72,Tr.sure,SS,hi',z3,h0,hn];repeat' with_reducible first|intro _|apply aI
   all_goals first|exact c108 _ _ _|exact c87 _|(simp[hr,hr2,h02,h03,shownErr,firstR,e,Go,Ends',v72,-List.getD_eq_getElem?_getD, *];done)|(simp_all [hr,hr2,h02,h03,shownErr,firstR,e,Go,Ends',v72,-List.getD_eq_getElem?_getD];done)
  ·have h0':¬0<i:=by omega
   have e:shownAt l i (l.getD i zShown)=if !within (l.getD i zShown).day 0 364 then 7 else if !nameOk (l.getD i zShown).as_ then 6 else 0:=by
    unfold shownAt;simp only[h0',false_and,if_false]
   generalize shownAt l i (l.getD i zShown)=Z at*
   refine WP.once ?_;simp only[T72,Tr.sure,SS,hi',z3,h0];repeat' with_reducible first|intro _|apply aI
   all_goals first|exact c108 _ _ _|exact c87 _|(simp[hr,shownErr,firstR,e,Go,Ends',v72,-List.getD_eq_getElem?_getD, *];done)|(simp_all [hr,shownErr,firstR,e,Go,Ends',v72,-List.getD_eq_getElem?_getD];done)
 ·refine WP.step ?_;simp only[T72,Go,Ends',v72,Tr.sure,SS,Int.lt_irrefl];repeat' with_reducible first|intro _|apply aI
  all_goals simp[shownErr,firstR,hI,Go,Ends',v72,-List.getD_eq_getElem?_getD, *]
inductive P112
 |e
inductive R112
 |r0 (r0:Bool)
def T112(b:Book)(n:Int):P112->Tr P112 R112
 |.e=>let c1:=(b.bodies.length:Int)-(1:Int);(.need (inR .i64 c1) (.call 108 [iI n,iI 0,iI c1] (.bool (within n 0 c1)) true true (.out (.r0 (within n 0 c1)))))
noncomputable def g112(b:Book)(n:Int):P112->List Item × St
 |.e=>bd Tryz.f112 [.agg (cC b),iI n] 9
def n112:R112->Exit × St
 |.r0 r0=>(.ret,⟨mk 11 [(4,.bool r0)],[],[]⟩)
def v112:R112->V
 |.r0 r0=>.bool r0
theorem s112(b:Book)(n:Int):Sm 0 (g112 b n) (T112 b n) (n112)
 |.e=>⟨400,by kernel_rfl⟩
theorem q112:∀r,bodyQ Tryz.prog Tryz.f112 (·=v112 r) (n112 r).1 (n112 r).2
 |.r0 r0=>bq (.bool r0) (by kernel_rfl)
theorem w112(b:Book)(n:Int){post:V->Prop}(h:WQ (T112 b n) v112 post .e):PC 112 [.agg (cC b),iI n] post:=
 PCalls.wq Tryz.func112 (s112 b n) q112 h
theorem c112(b:Book)(n:Int)(h:b.bodies.length<=5):PC 112 [.agg (tBook.cells b),iI n] (·=.bool (indexR b n)):=by
 have hr:inR .i64 ((b.bodies.length:Int)-1)=true:=inR64 (by omega) (by omega);refine w112 _ _ (WP.step ?_);simp only[T112,Go,Ends',v112,Tr.sure,SS];repeat' with_reducible first|intro _|apply aI
 all_goals first|exact c108 _ _ _|(simp[indexR,hr,Go,Ends',v112,-List.getD_eq_getElem?_getD, *];done)
def bitsTo(set:Int)(i:Nat):List Int:=((List.range i).filter (bitH set)).map fun(i:Nat)=>(i:Int)
theorem bitsTo_next(set:Int)(i:Nat):(bitsTo set (i+1)).reverse=if bitH set i=true then(i:Int)::(bitsTo set i).reverse else(bitsTo set i).reverse:=by
 unfold bitsTo;rw[List.range_succ,List.filter_append,List.map_append,List.reverse_append];by_cases h:bitH set i=true
 ·simp[h]
 ·simp[h]
theorem bitsTo_len(set:Int)(i:Nat):(bitsTo set i).length<=i:=by
 unfold bitsTo;have:=List.length_filter_le (bitH set) (List.range i);simp only[List.length_map,List.length_range]at*;omega
inductive P101
 |e
 |l0 (x0_4:Int) (a0_0:List Int)
inductive R101
 |r0 (r0:List Int)
def T101(set:Int):P101->Tr P101 R101
 |.e=>(.wait 4 (.own 3 3 1 (.go (.l0 0 ([])))))
 |.l0 x0_4 a0_0=>let c1:=x0_4+(1:Int);(.br (decide (x0_4<(5:Int))) (.need (decide (0<=x0_4)) (.need (decide ((2:Int)≠0)) (.br (((set.fdiv (2^(min (x0_4).toNat 64))).tmod (2:Int))==(1:Int)) (.need ((decide (a0_0.length=a0_0.length)&&decide (a0_0.length+1<=4294967296))&&decide (1<=1)) (.scal (fun _=>true) (.need (inR .i64 c1) (.go (.l0 c1 (x0_4::a0_0)))))) (.need (inR .i64 c1) (.go (.l0 c1 a0_0)))))) (.out (.r0 a0_0)))
noncomputable def g101(set:Int):P101->List Item × St
 |.e=>bd Tryz.f101 [iI set] 18
 |.l0 x0_4 a0_0=>(cutOf Tryz.f101 0,⟨mk 19 [(0,iI set),(3,.row 0 a0_0.length),(4,iI x0_4)],[.rows 3 1 a0_0.length (rowsRev tint a0_0)],[]⟩)
def n101:R101->Exit × St
 |.r0 r0=>(.ret,⟨mk 19 [(2,.row 0 r0.length)],[.rows 3 1 r0.length (rowsRev tint r0)],[]⟩)
def v101:R101->V
 |.r0 r0=>tint.lst r0.reverse
theorem s101(set:Int):Sm 0 (g101 set) (T101 set) (n101)
 |.e=>⟨400,by kernel_rfl⟩
 |.l0 _ _=>⟨400,by kernel_rfl⟩
theorem q101:∀r,bodyQ Tryz.prog Tryz.f101 (·=v101 r) (n101 r).1 (n101 r).2
 |.r0 r0=>⟨.inr rfl,by simp[n101],(.row 0 r0.length),(tint.lst r0.reverse),by kernel_rfl,(.weak (.row rfl (Nat.le_refl _)) (VLe.rev tint r0)),rfl⟩
theorem w101(set:Int){post:V->Prop}(h:WQ (T101 set) v101 post .e):PC 101 [iI set] post:=
 PCalls.wq Tryz.func101 (s101 set) q101 h
theorem c101(set:Int):PC 101 [iI set] (·=tint.lst (bitsR set)):=by
 refine w101 _ (WP.step ?_);simp only[T101,Go,Ends',v101,Tr.sure,SS];repeat' with_reducible first|intro _|apply aI
 refine WP.run (fun i=>.l0 (i:Int) (bitsTo set i).reverse) rfl 5 (fun i hi=> ?_) ?_
 ·have hr:inR .i64 ((i:Int)+1)=true:=inR64 (by omega) (by omega);have hi':(i:Int)<5:=by omega
  have hl:=bitsTo_len set i;have hl':(bitsTo set i).reverse.length+1<=4294967296:=by rw[List.length_reverse];omega
  have hb:bitH set i=((set.fdiv (2^(min i 64))).tmod 2==1):=rfl;rw[bitsTo_next,hb];generalize(bitsTo set i).reverse=A at*
  refine WP.once ?_;simp only[T101,Tr.sure,SS,hi'];repeat' with_reducible first|intro _|apply aI
  all_goals simp[hr,hl',Go,Ends',v101,-List.getD_eq_getElem?_getD, *]
 ·have he:tint.lst (bitsR set)=tint.lst (bitsTo set 5).reverse.reverse:=by rw[List.reverse_reverse];rfl
  rw[he];refine WP.step ?_;simp only[T101,Go,Ends',v101,Tr.sure,SS];repeat' with_reducible first|intro _|apply aI
  all_goals first|(simp[Go,Ends',v101,-List.getD_eq_getElem?_getD, *];done)|(simp_all [Go,Ends',v101,-List.getD_eq_getElem?_getD];done)
end
noncomputable section
inductive P109
 |e
 |l0 (x0_5:Int) (x0_6:Int)
inductive R109
 |r0 (r0:Int)
def T109(b:Book)(x:Line):P109->Tr P109 R109
 |.e=>let c1:Tr P109 R109:=.br (x.kind==(1:Int)) (.lit false (.br (x.c==x.d) (.lit true (.lit true (.lit true (.out (.r0 2))))) (.br (x.set !=(0:Int)) (.lit true (.lit true (.out (.r0 2)))) (.br (!(x.kind==(1:Int))) (.br (x.c !=(0:Int)) (.lit true (.lit false (.lit true (.out (.r0 2))))) (.lit true (.lit false (.br (x.d !=(0:Int)) (.out (.r0 2)) (.out (.r0 0)))))) (.lit false (.lit false (.lit false (.out (.r0 0))))))))) (.lit false (.lit false (.br (x.set !=(0:Int)) (.lit true (.lit true (.out (.r0 2)))) (.br (!(x.kind==(1:Int))) (.br (x.c !=(0:Int)) (.lit true (.lit false (.lit true (.out (.r0 2))))) (.lit true (.lit false (.br (x.d !=(0:Int)) (.out (.r0 2)) (.out (.r0 0)))))) (.lit false (.lit false (.lit false (.out (.r0 0)))))))));let c2:Tr P109 R109:=.br (decide (x.kind<=(1:Int))) (.br (x.a==x.b) (.lit true (.lit true (.lit true (.lit true (.lit true (.out (.r0 2))))))) c1) (.lit false c1);let c3:Tr P109 R109:=.lit true (.out (.r0 4));(.br (x.kind==(2:Int)) (.go (.l0 1 0)) (.call 112 [.agg (cC b),iI x.a] (.bool (indexR b x.a)) true true (.br (!(indexR b x.a)) (.lit true (.lit true c3)) (.call 112 [.agg (cC b),iI x.b] (.bool (indexR b x.b)) true true (.br (!(indexR b x.b)) (.lit true c3) (.br (x.kind==(1:Int)) (.call 112 [.agg (cC b),iI x.c] (.bool (indexR b x.c)) true true (.br (!(indexR b x.c)) (.lit true (.lit false c3)) (.call 112 [.agg (cC b),iI x.d] (.bool (indexR b x.d)) true true (.lit true (.lit false (.br (!(indexR b x.d)) (.out (.r0 4)) c2)))))) (.lit false (.lit false (.lit false c2)))))))))
 |.l0 x0_5 x0_6=>let c1:Tr P109 R109:=.lit true (.lit true (.out (.r0 2)));let c2:=x0_5-(1:Int);(.br (decide (x0_6<(b.bodies.length:Int))) (.need (inR .i64 ((2:Int)*x0_5)) (.need (inR .i64 (x0_6+(1:Int))) (.go (.l0 ((2:Int)*x0_5) (x0_6+(1:Int)))))) (.need (inR .i64 c2) (.call 108 [iI x.set,iI 0,iI c2] (.bool (within x.set 0 c2)) true true (.br (!(within x.set 0 c2)) (.out (.r0 4)) (.call 101 [iI x.set] (tint.lst (bitsR x.set)) true true (.br (decide ((((bitsR x.set).length):Int)<(2:Int))) (.lit true (.lit true c1)) (.br (x.a !=(0:Int)) (.lit true c1) (.br (x.b !=(0:Int)) c1 (.br (x.c !=(0:Int)) (.lit true (.out (.r0 2))) (.br (x.d !=(0:Int)) (.out (.r0 2)) (.out (.r0 0))))))))))))
noncomputable def g109(b:Book)(x:Line):P109->List Item × St
 |.e=>bd Tryz.f109 [.agg (cC b),.agg [iI x.day,iI x.kind,iI x.a,iI x.b,iI x.c,iI x.d,iI x.set]] 120
 |.l0 x0_5 x0_6=>(cutOf Tryz.f109 0,⟨mk 122 [(2,.ref 0 0 0),(3,.ref 1 0 0),(5,iI x0_5),(6,iI x0_6)],[.cells (cC b),.cells [iI x.day,iI x.kind,iI x.a,iI x.b,iI x.c,iI x.d,iI x.set]],[]⟩)
def n109:R109->Exit × St
 |.r0 r0=>(.ret,⟨mk 122 [(4,iI r0)],[],[]⟩)
def v109:R109->V
 |.r0 r0=>iI r0
theorem s109(b:Book)(x:Line):Sm 0 (g109 b x) (T109 b x) (n109)
 |.e=>⟨400,by kernel_rfl⟩
 |.l0 _ _=>⟨400,by kernel_rfl⟩
theorem q109:∀r,bodyQ Tryz.prog Tryz.f109 (·=v109 r) (n109 r).1 (n109 r).2
 |.r0 r0=>bq (iI r0) (by kernel_rfl)
theorem w109(b:Book)(x:Line){post:V->Prop}(h:WQ (T109 b x) v109 post .e):PC 109 [.agg (cC b),.agg [iI x.day,iI x.kind,iI x.a,iI x.b,iI x.c,iI x.d,iI x.set]] post:=
 PCalls.wq Tryz.func109 (s109 b x) q109 h
theorem pow2s{n:Nat}(h:n<=5):(1:Int)<=2^n/\(2:Int)^n<=32:=by
 rcases show n=0\/n=1\/n=2\/n=3\/n=4\/n=5 by omega with rfl|rfl|rfl|rfl|rfl|rfl<;>decide
theorem c109(b:Book)(x:Line)(h:b.bodies.length<=5):PC 109 [.agg (tBook.cells b),.agg (tLine.cells x)] (·=iI (fieldsErr b x)):=by
 by_cases hk:x.kind=2
 ·have e:fieldsErr b x=if !within x.set 0 ((2:Int)^b.bodies.length-1)then 4 else if((bitsR x.set).length:Int)<2\/x.a≠0\/x.b≠0\/x.c≠0\/x.d≠0 then 2 else 0:=by unfold fieldsErr;rw[if_pos hk]
  refine w109 _ _ (WP.step ?_);simp only[T109,Go,Ends',v109,Tr.sure,SS];repeat' with_reducible first|intro _|apply aI
  all_goals first|(simp_all [hk,Go,Ends',v109,-List.getD_eq_getElem?_getD];done)|skip
  refine WP.run (fun i=>.l0 ((2:Int)^i) i) rfl b.bodies.length (fun i hi=> ?_) ?_
  ·have hr:inR .i64 ((i:Int)+1)=true:=inR64 (by omega) (by omega);have hp:=pow2s (n:=i+1) (by omega);have hp2:(2:Int)^(i+1)=2*2^i:=by rw[Int.pow_succ,Int.mul_comm]
   have hr2:inR .i64 (2*(2:Int)^i)=true:=by rw[<-hp2];exact inR64 (by omega) (by omega)
   have hi':(i:Int)<b.bodies.length:=by omega
   rw[hp2];refine WP.once ?_;simp only[T109,Tr.sure,SS,hi'];repeat' with_reducible first|intro _|apply aI
   all_goals simp[hr,hr2,Go,Ends',v109,-List.getD_eq_getElem?_getD, *]
  ·have hp:=pow2s h;have hr2:inR .i64 ((2:Int)^b.bodies.length-1)=true:=inR64 (by omega) (by omega);rw[e];refine WP.step ?_;simp only[T109,Go,Ends',v109,Tr.sure,SS,Int.lt_irrefl];repeat' with_reducible first|intro _|apply aI
   all_goals first|exact c108 _ _ _|exact c101 _|(simp[hr2,Go,Ends',v109,-List.getD_eq_getElem?_getD, *];done)
 ·have k1:=c112 b x.a h;have k2:=c112 b x.b h;have k3:=c112 b x.c h;have k4:=c112 b x.d h;refine w109 _ _ (WP.step ?_);simp only[T109,Go,Ends',v109,Tr.sure,SS];repeat' with_reducible first|intro _|apply aI
  all_goals first|exact k1|exact k2|exact k3|exact k4|(simp[fieldsErr,hk,Go,Ends',v109,-List.getD_eq_getElem?_getD, *];done)|(simp_all [fieldsErr,hk,Go,Ends',v109,-List.getD_eq_getElem?_getD];done)
end
noncomputable section
inductive P73
 |e
 |l0 (x0_7:Int) (x0_8:Int)
inductive R73
 |r0 (r0:Int)
def T73(b:Book)(i:Int):P73->Tr P73 R73
 |.e=>let c1:=b.lines.getD (i).toNat tLine.zero;let c2:Tr P73 R73:=.call 108 [iI (c1.kind),iI 0,iI 4] (.bool (within (c1.kind) 0 4)) true true (.br (!(within (c1.kind) 0 4)) (.out (.r0 7)) (.call 109 [.agg (cC b),.agg [iI (c1.day),iI (c1.kind),iI (c1.a),iI (c1.b),iI (c1.c),iI (c1.d),iI (c1.set)]] (iI (fieldsErr b c1)) true true (.br ((fieldsErr b c1) !=(0:Int)) (.out (.r0 (fieldsErr b c1))) (.go (.l0 0 0)))));let c3:=decide (i>(0:Int));let c4:=i-(1:Int);(.need (decide (0<=i)&&decide (i<(b.lines.length:Int))) (.call 108 [iI (c1.day),iI 0,iI 364] (.bool (within (c1.day) 0 364)) true true (.br (!(within (c1.day) 0 364)) (.out (.r0 7)) (.br c3 (.front [] [(2,true)] (((c3==true)&&((inR .i64 c4)&&((decide (0<=c4)&&decide (c4<(b.lines.length:Int)))&&true)))&&true) true (.br (decide (c1.day<(b.lines.getD (c4).toNat tLine.zero).day)) (.out (.r0 2)) c2)) (.front [] [(2,false)] (((c3==false)&&true)&&true) true (.lit false c2))))))
 |.l0 x0_7 x0_8=>let c1:=x0_8+(1:Int);(.br (decide (x0_8<=i)) (.need (decide (0<=x0_8)&&decide (x0_8<(b.lines.length:Int))) (.br ((b.lines.getD (x0_8).toNat tLine.zero).kind==(2:Int)) (.need (inR .i64 (x0_7+(1:Int))) (.need (inR .i64 c1) (.go (.l0 (x0_7+(1:Int)) c1)))) (.need (inR .i64 c1) (.go (.l0 x0_7 c1))))) (.br ((b.lines.getD (i).toNat tLine.zero).kind==(2:Int)) (.br (decide (x0_7>(2:Int))) (.out (.r0 3)) (.out (.r0 0))) (.lit false (.out (.r0 0)))))
noncomputable def g73(b:Book)(i:Int):P73->List Item × St
 |.e=>bd Tryz.f73 [.agg (cC b),iI i] 61
 |.l0 x0_7 x0_8=>(cutOf Tryz.f73 0,⟨mk 63 [(1,iI i),(2,.ref 0 0 0),(5,.ref 1 0 0),(7,iI x0_7),(8,iI x0_8)],[.cells (cC b),.cells [iI ((b.lines.getD (i).toNat tLine.zero).day),iI ((b.lines.getD (i).toNat tLine.zero).kind),iI ((b.lines.getD (i).toNat tLine.zero).a),iI ((b.lines.getD (i).toNat tLine.zero).b),iI ((b.lines.getD (i).toNat tLine.zero).c),iI ((b.lines.getD (i).toNat tLine.zero).d),iI ((b.lines.getD (i).toNat tLine.zero).set)]],[]⟩)
def n73:R73->Exit × St
 |.r0 r0=>(.ret,⟨mk 63 [(4,iI r0)],[],[]⟩)
def v73:R73->V
 |.r0 r0=>iI r0
theorem s73(b:Book)(i:Int):Sm 0 (g73 b i) (T73 b i) (n73)
 |.e=>⟨400,by kernel_rfl⟩
 |.l0 _ _=>⟨400,by kernel_rfl⟩
theorem q73:∀r,bodyQ Tryz.prog Tryz.f73 (·=v73 r) (n73 r).1 (n73 r).2
 |.r0 r0=>bq (iI r0) (by kernel_rfl)
theorem w73(b:Book)(i:Int){post:V->Prop}(h:WQ (T73 b i) v73 post .e):PC 73 [.agg (cC b),iI i] post:=
 PCalls.wq Tryz.func73 (s73 b i) q73 h
def lineAt(b:Book)(i:Int):Int:=lineErr b i.toNat (b.lines.getD i.toNat zLine)
theorem someTo_le(l:List Line):∀n:Nat,0<=someTo l n/\someTo l n<=n
 |0=>by simp[someTo,natF]
 |n+1=>by
  have:=someTo_le l n;have e:someTo l (n+1)=if(l.getD n zLine).kind=2 then someTo l n+1 else someTo l n:=rfl
  rw[e];split<;>omega
theorem c73(b:Book)(i:Nat)(h:b.bodies.length<=5)(hl:b.lines.length<=8)(hi:i<b.lines.length):PC 73 [.agg (tBook.cells b),iI (i:Int)] (·=iI (lineAt b i)):=by
 have hi':(i:Int)<b.lines.length:=by omega
 have k1:=c109 b (b.lines.getD i zLine) h
 have hfin:¬(!within (b.lines.getD i zLine).day 0 364)=true->¬(0<i/\(b.lines.getD i zLine).day<(b.lines.getD (i-1) zLine).day)->¬(!within (b.lines.getD i zLine).kind 0 4)=true->¬fieldsErr b (b.lines.getD i zLine)≠0->
   WP Tryz.prog ⟨none,0⟩ (T73 b i) (Ends' fun r=>v73 r=iI (lineAt b i)) (.l0 0 0):=fun h1 h2 h3 h4=>by
  have e:lineAt b i=if(b.lines.getD i zLine).kind=2/\2<someTo b.lines (i+1)then 3 else 0:=by
   unfold lineAt lineErr;rw[Int.toNat_natCast,if_neg h1,if_neg h2,if_neg h3,if_neg h4]
  refine WP.run (fun k=>.l0 (someTo b.lines k) k) rfl (i+1) (fun k hk=> ?_) ?_
  ·have hs:=someTo_le b.lines k;have hr:inR .i64 ((k:Int)+1)=true:=inR64 (by omega) (by omega);have hr2:inR .i64 (someTo b.lines k+1)=true:=inR64 (by omega) (by omega);have hk1:(k:Int)<=i:=by omega
   have hk2:(k:Int)<b.lines.length:=by omega
   have e1:someTo b.lines (k+1)=if(b.lines.getD k zLine).kind=2 then someTo b.lines k+1 else someTo b.lines k:=rfl
   rw[e1];refine WP.once ?_;simp only[T73,Tr.sure,SS,hk1,hk2,z5];repeat' with_reducible first|intro _|apply aI
   all_goals simp[hr,hr2,Go,Ends',v73,-List.getD_eq_getElem?_getD, *]
  ·have hno:¬((i+1:Nat):Int)<=i:=by omega
   rw[e];refine WP.step ?_;simp only[T73,Go,Ends',v73,Tr.sure,SS,hno,z5];repeat' with_reducible first|intro _|apply aI
   all_goals simp[Go,Ends',v73,-List.getD_eq_getElem?_getD, *]
 by_cases h0:(0:Int)<i
 ·have h0':0<i:=by omega
  have hr2:inR .i64 ((i:Int)-1)=true:=inR64 (by omega) (by omega);have h02:(0:Int)<=(i:Int)-1:=by omega
  have h03:(i:Int)-1<b.lines.length:=by omega
  have hn:((i:Int)-1).toNat=i-1:=by omega
  by_cases g1:(!within (b.lines.getD i zLine).day 0 364)=true
  ·have e:lineAt b i=7:=by unfold lineAt lineErr;rw[Int.toNat_natCast,if_pos g1]
   rw[e];refine w73 _ _ (WP.step ?_);simp only[T73,Go,Ends',v73,Tr.sure,SS,hi',z5,h0,hn];repeat' with_reducible first|intro _|apply aI
   all_goals first|exact c108 _ _ _|(simp[g1,Go,Ends',v73,-List.getD_eq_getElem?_getD, *];done)|(simp_all [g1,Go,Ends',v73,-List.getD_eq_getElem?_getD];done)
  by_cases g2:(b.lines.getD i zLine).day<(b.lines.getD (i-1) zLine).day
  ·have e:lineAt b i=2:=by unfold lineAt lineErr;rw[Int.toNat_natCast,if_neg g1,if_pos ⟨h0',g2⟩]
   rw[e];refine w73 _ _ (WP.step ?_);simp only[T73,Go,Ends',v73,Tr.sure,SS,hi',z5,h0,hn];repeat' with_reducible first|intro _|apply aI
   all_goals first|exact c108 _ _ _|(simp[g1,g2,hr2,h02,h03,Go,Ends',v73,-List.getD_eq_getElem?_getD, *];done)|(simp_all [g1,g2,hr2,h02,h03,Go,Ends',v73,-List.getD_eq_getElem?_getD];done)
  have g2':¬(0<i/\(b.lines.getD i zLine).day<(b.lines.getD (i-1) zLine).day):=fun h=>g2 h.2;by_cases g3:(!within (b.lines.getD i zLine).kind 0 4)=true
  ·have e:lineAt b i=7:=by unfold lineAt lineErr;rw[Int.toNat_natCast,if_neg g1,if_neg g2',if_pos g3]
   rw[e];refine w73 _ _ (WP.step ?_);simp only[T73,Go,Ends',v73,Tr.sure,SS,hi',z5,h0,hn];repeat' with_reducible first|intro _|apply aI
   all_goals first|exact c108 _ _ _|(simp[g1,g2,g3,hr2,h02,h03,Go,Ends',v73,-List.getD_eq_getElem?_getD, *];done)|(simp_all [g1,g2,g3,hr2,h02,h03,Go,Ends',v73,-List.getD_eq_getElem?_getD];done)
  by_cases g4:fieldsErr b (b.lines.getD i zLine)≠0
  ·have e:lineAt b i=fieldsErr b (b.lines.getD i zLine):=by unfold lineAt lineErr;rw[Int.toNat_natCast,if_neg g1,if_neg g2',if_neg g3,if_pos g4]
   rw[e];refine w73 _ _ (WP.step ?_);simp only[T73,Go,Ends',v73,Tr.sure,SS,hi',z5,h0,hn];repeat' with_reducible first|intro _|apply aI
   all_goals first|exact c108 _ _ _|exact k1|(simp[g1,g2,g3,g4,hr2,h02,h03,Go,Ends',v73,-List.getD_eq_getElem?_getD, *];done)|(simp_all [g1,g2,g3,g4,hr2,h02,h03,Go,Ends',v73,-List.getD_eq_getElem?_getD];done)
  have hf:=hfin g1 g2' g3 g4;refine w73 _ _ (WP.step ?_);simp only[T73,Go,Ends',v73,Tr.sure,SS,hi',z5,h0,hn];repeat' with_reducible first|intro _|apply aI
  all_goals first|exact c108 _ _ _|exact k1|exact hf|(simp[g1,g2,g3,g4,hr2,h02,h03,Go,Ends',v73,-List.getD_eq_getElem?_getD, *];done)|(simp_all [g1,g2,g3,g4,hr2,h02,h03,Go,Ends',v73,-List.getD_eq_getElem?_getD];done)
 ·have h0':¬0<i:=by omega
  by_cases g1:(!within (b.lines.getD i zLine).day 0 364)=true
  ·have e:lineAt b i=7:=by unfold lineAt lineErr;rw[Int.toNat_natCast,if_pos g1]
   rw[e];refine w73 _ _ (WP.step ?_);simp only[T73,Go,Ends',v73,Tr.sure,SS,hi',z5,h0];repeat' with_reducible first|intro _|apply aI
   all_goals first|exact c108 _ _ _|(simp_all [g1,Go,Ends',v73,-List.getD_eq_getElem?_getD];done)
  have g2':¬(0<i/\(b.lines.getD i zLine).day<(b.lines.getD (i-1) zLine).day):=fun h=>h0' h.1;by_cases g3:(!within (b.lines.getD i zLine).kind 0 4)=true
  ·have e:lineAt b i=7:=by unfold lineAt lineErr;rw[Int.toNat_natCast,if_neg g1,if_neg g2',if_pos g3]
   rw[e];refine w73 _ _ (WP.step ?_);simp only[T73,Go,Ends',v73,Tr.sure,SS,hi',z5,h0];repeat' with_reducible first|intro _|apply aI
   all_goals first|exact c108 _ _ _|(simp_all [g1,g3,Go,Ends',v73,-List.getD_eq_getElem?_getD];done)
  by_cases g4:fieldsErr b (b.lines.getD i zLine)≠0
  ·have e:lineAt b i=fieldsErr b (b.lines.getD i zLine):=by unfold lineAt lineErr;rw[Int.toNat_natCast,if_neg g1,if_neg g2',if_neg g3,if_pos g4]
   rw[e];refine w73 _ _ (WP.step ?_);simp only[T73,Go,Ends',v73,Tr.sure,SS,hi',z5,h0];repeat' with_reducible first|intro _|apply aI
   all_goals first|exact c108 _ _ _|exact k1|(simp_all [g1,g3,g4,Go,Ends',v73,-List.getD_eq_getElem?_getD];done)
  have hf:=hfin g1 g2' g3 g4;refine w73 _ _ (WP.step ?_);simp only[T73,Go,Ends',v73,Tr.sure,SS,hi',z5,h0];repeat' with_reducible first|intro _|apply aI
  all_goals first|exact c108 _ _ _|exact k1|exact hf|(simp_all [g1,g3,g4,Go,Ends',v73,-List.getD_eq_getElem?_getD];done)
end
end Go.Proofs.YtemgodefhcbleaaGreat
