import Derived.DataReads
import Derived.ChangeArms
import Derived.OpenShut
import Derived.ChangeSame
import Derived.Test.YtmflfedkfdkipaaGreatP7
set_option linter.all false
namespace Go.Vx
open Go Go.Rx
def qvk{v12 β:Type}{f:v12->V β}:∀{l:X v12}{r:X β},l.mapM f=some r->r.length=l.length/\∀(i:Nat)(a:v12),l[i]? = some a->∃b,r[i]? = some b/\f a=some b
 |[],r,h=>by simp at h;subst h;simp
 |a::l,r,h=>by
  simp only[List.mapM_cons,bind,Option.bind]at h;rcases h1:f a with _|b;simp[h1]at h;simp only[h1]at h;rcases h2:l.mapM f with _|r';simp[h2]at h;simp[h2,pure]at h;subst h;obtain⟨g1,g2⟩:=qvk h2;refine⟨by simp[g1],fun i x hx=>?_⟩;cases i with
  |zero=>simp at hx;subst hx;exact⟨b,rfl,h1⟩|succ i=>simp at hx;simpa using g2 i x hx
def je(W:Nr):∀(l:X U)(vs:X Value),nG W l vs↔∀(i:Nat)(u:U),l[i]? = some u->∃v,vs[i]? = some v/\Rep W u v
 |[],vs=>by simp[nG]
 |u::us,[]=>by simp only[nG,false_iff];intro h;obtain⟨v,hv,_⟩:=h 0 u rfl;simp at hv
 |u::us,v::vs=>by
  simp only[nG,je W us vs];constructor;rintro⟨h1,h2⟩ i w hi;cases i with
  |zero=>simp at hi;subst hi;exact⟨v,rfl,h1⟩|succ i=>simp at hi;simpa using h2 i w hi
  intro h;refine⟨?_,fun i w hi=>by simpa using h (i+1) w (by simpa using hi)⟩;obtain⟨v',h1,h2⟩:=h 0 u rfl;simp at h1;subst h1;exact h2
def z2g{W:Nr}{sz:Nat}:∀{l:X (X U)}{vs:X Value},(∀(i:Nat)(c:X U),l[i]? = some c->c.length=sz/\okL c=true/\nG W c (vs.drop (i*sz)))->MH W sz l vs
 |[],vs,h=>by simp[MH]
 |d::l,vs,h=>by simp only[MH];have h0:=h 0 d rfl;refine⟨h0.1,h0.2.1,by simpa using h0.2.2,z2g fun i c hc=>?_⟩;have:=h (i+1) c (by simpa using hc);rw[List.drop_drop];rw[Nat.succ_mul,Nat.add_comm]at this;exact this
def Oi(P:DC):Nat->X Field->Nat->PE
 |o,[],n=>Nat.beq o n|o,f::fs,n=>cond (Nat.beq f.offset o) (Oi P (o+P.cellsOf f.type) fs n) false
def X8(P:DC)(TS:X TypeId)(t:TypeId):PE:=match P.underlying t with
 |some .bool=>true|some (.int _)=>true
 |some .string=>true|some (.slice e)=>cond (TS.any (Nat.beq e)) (Nat.blt 0 (P.cellsOf e)) false
 |some (.struct fs)=>cond (Oi P 0 fs.toList (P.cellsOf t)) (fs.toList.all fun f=>TS.any (Nat.beq f.type)) false|some (.array n e)=>cond (TS.any (Nat.beq e)) (Nat.beq (P.cellsOf t) (n*P.cellsOf e)) false
 |_=>false
def closedTS(P:DC)(TS:X TypeId):PE:=TS.all (X8 P TS)
def rn{TS:X TypeId}{e:TypeId}(h:TS.any (Nat.beq e)=true):e∈TS:=by
 obtain⟨x,h1,h2⟩:=List.any_eq_true.1 h;have:e=x:=by simpa[beq_eq]using h2
 rw[this];exact h1
def qn8{W:Nr}{P:DC}{fuel:Nat}{cs:X Value}:∀(fs:X Field)(o n:Nat),Oi P o fs n=true->n<=cs.length->
  (∀f∈fs,∃us,nG W us ((cs.drop f.offset).take (P.cellsOf f.type))/\us.length=((cs.drop f.offset).take (P.cellsOf f.type)).length/\okL us=true/\OfTy P fuel f.type us)->
  ∃us,nG W us (cs.drop o)/\us.length=n-o/\okL us=true/\o<=n/\∀f∈fs,o<=f.offset/\OfTy P fuel f.type ((us.drop (f.offset-o)).take (P.cellsOf f.type))
 |[],o,n,hc,hl,h=>by
  have:o=n:=by simpa[Oi,beq_eq]using hc
  subst this;exact⟨[],by simp[nG],by simp,rfl,zF _,by simp⟩
 |f::fs,o,n,hc,hl,h=>by
  simp only[Oi]at hc;obtain⟨h1,h2⟩:=L6 hc;have ho:f.offset=o:=by simpa[beq_eq]using h1
  obtain⟨us,g1,g2,g3,g4,g5⟩:=qn8 fs _ n h2 hl fun x hx=>h x (by simp[hx]);obtain⟨u0,k1,k2,k3,k4⟩:=h f qq4;rw[ho]at k1 k2;have k5:u0.length=P.cellsOf f.type:=by rw[k2];simp;omega
  refine⟨u0++us,?_,by simp[k5,g2];omega,S8 k3 g3,by omega,fun x hx=>?_⟩;rw[je]at k1 g1 ⊢;intro i u hu;rw[List.getElem?_append]at hu;split at hu;rename_i aE;obtain⟨v,q1,q2⟩:=k1 i u hu;rw[List.getElem?_take]at q1;rw[k5]at aE;simp only[aE,if_true]at q1;exact⟨v,q1,q2⟩;rename_i aE;obtain⟨v,q1,q2⟩:=g1 _ u hu;rw[List.getElem?_drop]at q1 ⊢;exact⟨v,by rw[k5]at q1 aE;rw[show o+i=o+P.cellsOf f.type+(i-P.cellsOf f.type) by omega];exact q1,q2⟩;rcases zI.1 hx with rfl |hx;refine⟨by omega,?_⟩;rw[ho,Nat.sub_self,List.drop_zero,<-k5,List.take_left' rfl];exact k4;obtain⟨q1,q2⟩:=g5 x hx;refine⟨by omega,?_⟩;rw[show x.offset-o=u0.length+(x.offset-(o+P.cellsOf f.type)) by omega,List.drop_append,List.drop_of_length_le qq0,List.nil_append,Nat.add_sub_cancel_left];exact q2
def qq5{W:Nr}{P:DC}{fuel:Nat}{cs:X Value}{e:TypeId}{sz:Nat}:∀(n:Nat),n*sz<=cs.length->
  (∀i,i<n->∃us,nG W us ((cs.drop (i*sz)).take sz)/\us.length=((cs.drop (i*sz)).take sz).length/\okL us=true/\OfTy P fuel e us)->
  ∃us,nG W us cs/\us.length=n*sz/\okL us=true/\∀i,i<n->OfTy P fuel e ((us.drop (i*sz)).take sz)
 |0,hl,h=>⟨[],by simp[nG],by simp,rfl,by simp⟩|n+1,hl,h=>by
  rw[Nat.succ_mul]at hl;obtain⟨us,g1,g2,g3,g4⟩:=qq5 n qq0 fun i hi=>h i qq0;obtain⟨u0,k1,k2,k3,k4⟩:=h n qq0;have k5:u0.length=sz:=by rw[k2];simp;omega
  refine⟨us++u0,?_,by rw[zU,g2,k5,Nat.succ_mul],S8 g3 k3,fun i hi=>?_⟩;rw[je]at k1 g1 ⊢;intro i u hu;rw[List.getElem?_append]at hu;split at hu;exact g1 i u hu;rename_i aE;obtain⟨v,q1,q2⟩:=k1 _ u hu;rw[List.getElem?_take]at q1;split at q1;rw[List.getElem?_drop]at q1;exact⟨v,by rw[g2]at q1 aE;rw[show i=n*sz+(i-n*sz) by omega];exact q1,q2⟩;cases q1;by_cases jA:i<n;have:=g4 i jA;have pU:i*sz+sz<=us.length:=by rw[g2,<-Nat.succ_mul];exact Nat.mul_le_mul_right _ jA
  rw[List.drop_append_of_le_length qq0,List.take_append_of_le_length (by simp;omega)];exact this;have:i=n:=by omega
  subst this;rw[<-g2,List.drop_left' rfl,<-k5,List.take_length];exact k4
section
variable{H:Type}{enc:TypeId×Value->H}{P:DC}{W:Nr}{TS:X TypeId}(Ky:closedTS P TS=true)
include Ky
omit Ky in
def x_{a:Addr}{n:Nat}{cs:X Value}(hn:0<n)(h:W.cells? 0 a n=some cs):∃c e fr,a.spot=none/\W.heap[a.block]? = some (.cells c e fr)/\cs.length=n/\∀(k:Nat)(v:Value),cs[k]? = some v->c.toList[a.off+k]? = some v:=by
 unfold World.cells? at h;simp only[Nat.zero_le,if_true]at h;obtain⟨g1,g2⟩:=qvk h;obtain⟨v0,k1,k2⟩:=g2 0 0 (by simp[hn]);have wU:a.spot=none:=by have:=World.cell?_spot k2;simpa[Addr.add]using this
 have hadd:∀k,a.add k=⟨a.block,a.off+k,none⟩:=fun k=>by obtain⟨b,o,sp⟩:=a;simp only at wU;subst wU;exact FD b o k
 rw[hadd]at k2;unfold World.cell? at k2;rcases hw:W.heap[a.block]? with _|o;simp[hw]at k2;cases o with
 |cells c e fr=>
  refine⟨c,e,fr,wU,rfl,by simpa using g1,fun k v hk=>?_⟩;have aE:k<n:=by have:=(zG.1 hk).1;rw[g1]at this;simpa using this
  obtain⟨v',q1,q2⟩:=g2 k k (by simp[aE]);rw[hk]at q1;cases q1;rw[hadd]at q2;simp only[World.cell?,hw]at q2;simpa using q2
 |_=>simp[hw]at k2
def jb:∀(fuel:Nat)(t:TypeId),t∈TS->∀(cs:X Value)(x:DataW H×X MemPlace),DataW.trod enc P W 0 (fun _=>true) true fuel t cs=some x->∃us,nG W us cs/\us.length=cs.length/\okL us=true/\OfTy P fuel t us
 |0,t,ht,cs,x,h=>by simp[DataW.trod]at h
 |fuel+1,t,ht,cs,x,h=>by
  have wS:=List.all_eq_true.1 Ky t ht;unfold X8 at wS;rcases hd:P.underlying t with _|d;simp[hd]at wS;cases d with
  |bool=>obtain⟨b,rfl,_⟩:=DataW.trod_bool hd h;exact⟨[.bool b],by simp[nG,Rep],rfl,rfl,by simp[OfTy,hd]⟩
  |int k=>obtain⟨n,rfl,_,ON⟩:=DataW.trod_int hd h;exact⟨[.int k n],by simp[nG,Rep],rfl,rfl,by simp[OfTy,hd,ON]⟩
  |string=>obtain⟨s,rfl,_,eY⟩:=DataW.trod_string hd h;refine⟨[.str s.data.toList],by simp[nG,Rep],rfl,rfl,?_⟩;simp only[OfTy,hd];exact⟨_,rfl,by simpa using eY⟩
  |slice e=>
   simp only[hd]at wS;obtain⟨hte,iQ⟩:=L6 wS;have he:=rn hte;have eY:0<P.cellsOf e:=YM iQ;rcases DataW.trod_slice hd h with⟨rfl,_⟩|⟨a,len,cap,D1,rest,n,bf,rfl,_,_,bc,hcm,aQ,hel,wU,_⟩;refine⟨[.isl false []],by simp[nG,Rep],rfl,rfl,?_⟩;simp only[OfTy,hd];exact⟨[],rfl,by simp,by simp⟩;have hn:n=fuel:=by omega
   subst hn;have iU:cap<cV:=by unfold cV;unfold maxLen at hcm;omega
   have each:∀i,i<len->∃us,us.length=P.cellsOf e/\okL us=true/\OfTy P n e us/\∃c ty fr,a.spot=none/\W.heap[a.block]? = some (.cells c ty fr)/\nG W us (c.toList.drop (a.off+i*P.cellsOf e)):=by
    intro i hi;have h1:=hel i hi;have h2:D1[i]? = some D1[i]:=by simp[aQ,hi]
    rw[h2]at h1;rcases hc:W.cells? 0 (a.add (i*P.cellsOf e)) (P.cellsOf e)with _|ci;simp[hc]at h1;simp only[hc,Option.bind_some]at h1;obtain⟨us,r1,r2,r3,r4⟩:=jb n e he ci _ h1;obtain⟨c,ty,fr,k1,k2,k3,k4⟩:=x_ eY hc;have Bl:a.spot=none:=by
     have h3:=hel 0 qq0;have h4:D1[0]? = some (D1[0]' qq0):=by simp[aQ,show 0<len by omega]
     rw[h4]at h3;rcases PA:W.cells? 0 (a.add (0*P.cellsOf e)) (P.cellsOf e)with _|c0;rw[PA]at h3;cases h3;obtain⟨_,_,_,q1,_⟩:=x_ eY PA;simpa[Addr.add]using q1
    have hadd:a.add (i*P.cellsOf e)=⟨a.block,a.off+i*P.cellsOf e,none⟩:=by obtain⟨b,o,sp⟩:=a;simp only at Bl;subst Bl;exact FD b o _
    rw[hadd]at k2 k4;refine⟨us,by rw[r2,k3],r3,r4,c,ty,fr,Bl,k2,?_⟩;rw[je]at r1 ⊢;intro k u hu;obtain⟨v,q1,q2⟩:=r1 k u hu;exact⟨v,by rw[List.getElem?_drop];exact k4 k v q1,q2⟩
   have all:∀m,m<=len->∃l:X (X U),l.length=m/\∀(i:Nat)(us:X U),l[i]? = some us->us.length=P.cellsOf e/\okL us=true/\OfTy P n e us/\∃c ty fr,a.spot=none/\W.heap[a.block]? = some (.cells c ty fr)/\nG W us (c.toList.drop (a.off+i*P.cellsOf e)):=by
    intro m;induction m with
    |zero=>intro _;exact⟨[],rfl,by simp⟩|succ m ih=>
     intro hm;obtain⟨l,l1,l2⟩:=ih qq0;obtain⟨us,hus⟩:=each m qq0;refine⟨l++[us],by simp[l1],fun i vs Bg=>?_⟩;rw[List.getElem?_append]at Bg;split at Bg;exact l2 i vs Bg;rename_i IK;have:i=m:=by have:=(zG.1 Bg).1;simp at this;omega
     subst this;rw[l1,Nat.sub_self]at Bg;simp at Bg;subst Bg;exact hus
   obtain⟨l,l1,l2⟩:=all len (zF _);refine⟨[.isl false l],?_,rfl,rfl,?_⟩;simp only[nG,and_true,Rep,true_and];by_cases FS:l=[];subst FS;simp at l1;subst l1;obtain⟨b,o,sp⟩:=a;rcases sp with _|p;exact .inr ⟨b,o,cap,rfl,iU,Nat.zero_le _,.inl rfl⟩;rcases Nat.eq_zero_or_pos cap with h0 |hp;subst h0;exact .inl ⟨rfl,.inr ⟨b,o,p,rfl⟩⟩;exfalso;obtain⟨s1,s2⟩:=wU rfl;have h3:=s2 0 qq0;have h4:rest[0]? = some (rest[0]' qq0):=by simp[s1,hp]
   rw[h4]at h3;rcases PA:W.cells? 0 (Addr.add ⟨b,o,some p⟩ ((0+0)*P.cellsOf e)) (P.cellsOf e)with _|c0;rw[PA]at h3;cases h3;obtain⟨_,_,_,q1,_⟩:=x_ eY PA;simp[Addr.add]at q1;obtain⟨Fq,hus0⟩:∃Fq,l[0]? = some Fq:=by cases l with
    |nil=>exact absurd rfl FS|cons a l=>exact⟨a,rfl⟩
   obtain⟨_,_,_,c,ty,fr,Kk,hw,_⟩:=l2 0 Fq hus0;refine .inr ⟨a.block,a.off,cap,by obtain⟨b,o,sp⟩:=a;simp only at Kk;subst Kk;rw[l1],iU,by omega,.inr ⟨c,ty,fr,P.cellsOf e,hw,z2g fun i us hi=>?_⟩⟩;obtain⟨q1,q2,_,c',ty',fr',_,nV,q3⟩:=l2 i us hi;rw[hw]at nV;cases nV;exact⟨q1,q2,by rw[List.drop_drop];exact q3⟩;simp only[OfTy,hd];refine⟨l,rfl,by omega,fun us hus=>?_⟩;obtain⟨i,hi⟩:=List.mem_iff_getElem?.1 hus;exact(l2 i us hi).2.2.1
  |struct fs=>
   simp only[hd]at wS;obtain⟨bh,bY⟩:=L6 wS;obtain⟨xs,m,bf,_,hl,LU,hf⟩:=DataW.trod_struct hd h;have hm:m=fuel:=by omega
   subst hm;obtain⟨us,g1,g2,g3,_,g5⟩:=qn8 (W:=W) (P:=P) (fuel:=m) (cs:=cs) fs.toList 0 (P.cellsOf t) bh qq0 fun f CQ=>by
    obtain⟨i,hi⟩:=List.mem_iff_getElem?.1 CQ;have h1:=hf i f (by simpa using hi);have h2:i<xs.length:=by rw[LU];have:=(zG.1 hi).1;simpa using this
    rw[show xs[i]? = some xs[i] by simp[h2]]at h1;exact jb m f.type (rn (List.all_eq_true.1 bY f CQ)) _ _ h1
   refine⟨us,by simpa using g1,by omega,g3,?_⟩;simp only[OfTy,hd];exact⟨by omega,fun f CQ=>by simpa using(g5 f CQ).2⟩
  |array n e=>
   simp only[hd]at wS;obtain⟨hte,iT⟩:=L6 wS;have he:=rn hte;obtain⟨xs,m,bf,_,hl,LU,hf⟩:=DataW.trod_array hd h;have hm:m=fuel:=by omega
   subst hm;have bi:P.cellsOf t=n*P.cellsOf e:=by simpa[beq_eq]using iT
   obtain⟨us,g1,g2,g3,g4⟩:=qq5 (W:=W) (P:=P) (fuel:=m) (cs:=cs) (e:=e) (sz:=P.cellsOf e) n qq0 fun i hi=>by have h1:=hf i hi;rw[show xs[i]? = some xs[i] by simp[LU,hi]]at h1;exact jb m e he _ _ h1
   refine⟨us,g1,by omega,g3,?_⟩;simp only[OfTy,hd];exact⟨by omega,g4⟩
  |_=>simp[hd]at wS
def OfArg(P:DC)(t:TypeId)(u:U):Prop:=∃fuel us,OfTy P fuel t us/\match P.underlying t with
 |some (.struct _)=>u=.agg us|some (.array _ _)=>u=.agg us
 |_=>us=[u]
def OfArgs(P:DC):X TypeId->X U->Prop
 |[],us=>us=[]|t::ts,us=>∃u Fs,us=u::Fs/\OfArg P t u/\OfArgs P ts Fs
def z8r{t:TypeId}(ht:t∈TS){v:Value}{d:DataW H}{ps:X MemPlace}{r:Reach}{b0:Nat}(eK:Value.okWide P W r b0 t v)(h:DataW.Trod enc P W 0 (fun _=>true) true t v d ps):∃u,Rep W u v/\OfArg P t u:=by
 obtain⟨fuel,hf⟩:=h;obtain⟨us,h1,h2,h3,h4⟩:=jb Ky fuel t ht _ _ hf;have wS:=List.all_eq_true.1 Ky t ht;unfold X8 at wS;have one:v.cells.toList=[v]->(match P.underlying t with
   |some (.struct _)=>False|some (.array _ _)=>False
   |_=>True)->∃u,Rep W u v/\OfArg P t u:=fun hc hm=>by
  rw[hc]at h1 h2
  match us,h2 with
  |[u],_=>simp only[nG,and_true]at h1;refine⟨u,h1,fuel,[u],h4,?_⟩;split<;>simp_all
 have agg:(∃cs,v=.agg cs)->(match P.underlying t with
   |some (.struct _)=>True|some (.array _ _)=>True
   |_=>False)->∃u,Rep W u v/\OfArg P t u:=fun⟨cs,hc⟩ hm=>by
  subst hc;refine⟨.agg us,?_,fuel,us,h4,?_⟩;simp only[Rep];exact⟨cs.toList,rfl,h1,h2,h3⟩;split<;>simp_all
 unfold Value.okWide at eK;rcases hd:P.underlying t with _|dd;simp[hd]at wS;cases dd with
 |struct fs=>simp only[hd]at eK;obtain⟨cs,hc,_⟩:=eK;exact agg ⟨cs,hc⟩ (by simp[hd])
 |array n e=>simp only[hd]at eK;obtain⟨cs,hc,_⟩:=eK;exact agg ⟨cs,hc⟩ (by simp[hd])
 |bool=>refine one ?_ (by simp[hd]);simp only[hd,Cell.okWide]at eK;cases v<;>first |rfl |(simp[Cell.ok,hd]at eK)
 |int k=>refine one ?_ (by simp[hd]);simp only[hd,Cell.okWide]at eK;cases v<;>first |rfl |(simp[Cell.ok,hd]at eK)
 |string=>refine one ?_ (by simp[hd]);simp only[hd,Cell.okWide]at eK;cases v<;>first |rfl |(simp[Cell.ok,hd]at eK)
 |slice e=>refine one ?_ (by simp[hd]);simp only[hd,Cell.okWide]at eK;cases v<;>first |rfl |(simp[Cell.ok,hd]at eK)
 |_=>simp[hd]at wS
def args_rep:∀{ts:X TypeId}{vs:X Value}{ds:X (DataW H)}{ps:X MemPlace}{r:Reach}{b0:Nat},(∀t∈ts,t∈TS)->(∀(j:Nat) t v,ts[j]? = some t->vs[j]? = some v->Value.okWide P W r b0 t v)->DataW.TrodAll enc P W 0 (fun _=>true) true ts vs ds ps->
  ∃us,nG W us vs/\us.length=vs.length/\OfArgs P ts us
 |[],[],[],ps,r,b0,ht,eK,h=>⟨[],by simp[nG],rfl,rfl⟩|t::ts,v::vs,d::ds,ps,r,b0,ht,eK,h=>by obtain⟨p,q,h1,h2,_⟩:=h;obtain⟨u,g1,g2⟩:=z8r Ky (ht t qq4) (eK 0 t v rfl rfl) h1;obtain⟨us,k1,k2,k3⟩:=args_rep (fun x hx=>ht x (by simp[hx])) (fun j x y h3 h4=>eK (j+1) x y (by simpa using h3) (by simpa using h4)) h2;exact⟨u::us,by simp[nG,g1,k1],by simp[k2],u,us,rfl,g2,k3⟩
 |[],_::_,_,ps,r,b0,ht,eK,h=>by simp[DataW.TrodAll]at h
 |[],[],_::_,ps,r,b0,ht,eK,h=>by simp[DataW.TrodAll]at h
 |_::_,[],_,ps,r,b0,ht,eK,h=>by simp[DataW.TrodAll]at h
 |_::_,_::_,[],ps,r,b0,ht,eK,h=>by simp[DataW.TrodAll]at h
end
def OL:V mI->V mI
 |some (.inl (l,e,1))=>some (.inl (l,e,1))|_=>none
def Fx(g:Nat->V mI):Hp->Hp
 |[]=>[]|(i,_)::h=>match g i with
  |some b=>(i,b)::Fx g h|none=>Fx g h
def z03(g:Nat->V mI):∀(h:Hp)(i:Nat),lk (Fx g h) i=(match lk h i with |some _=>g i |none=>none)
 |[],i=>by simp[Fx,lk]
 |(j,b)::h,i=>by
  have ih:=z03 g h i;simp only[Fx];cases hg:g j with
  |none=>simp only[mL];by_cases e:j=i;subst e;simp only[if_true];rw[ih,hg];split<;>rfl;simp only[e,if_false];exact ih|some c=>simp only[mL];by_cases e:j=i;subst e;simp[hg];simp only[e,if_false];exact ih
def AJ(s:S):S:=⟨Fx (fun i=>OL (lk s.h i)) s.h,s.nx⟩
def L2(s:S)(i:Nat):lk (AJ s).h i=OL (lk s.h i):=by simp only[AJ,z03];rcases h:lk s.h i with _|b;rfl;simp
def S5{o:V mI}{b:mI}(h:OL o=some b):o=some b/\∃l e,b=.inl (l,e,1):=by unfold OL at h;split at h;simp at h;subst h;exact⟨rfl,_,_,rfl⟩;cases h
def qnb(s:S):Less s (AJ s):=⟨zF _,fun i b hb=>by rw[L2]at hb;exact(S5 hb).1⟩
def aW.view{P:DC}{f:FuncId}{args args':X U}{Y:Sg}{u:U}{v:Value}(h:aW P f args ⟨[],0⟩ (fun u' _=>u'=u/\aT 0 u'))(ha:aG 0 args)(hu:toV u=some v)(B9:∀m,ren m v=v){Y1:Sg}(hg:Gh 0 args' Y args Y1):aW P f args' Y (fun u' Y'=>u'=u/\Y'=Y):=fun F x vs m w cargs hx hh fG he dV cC=>by
 obtain⟨y1,a1,a2,a3,a4,a5,a6⟩:=hg F x vs hx hh fG he;have pH:=a1 m w dV;have eO:=bT.less pH.fits (qnb y1.s);have fD:Mo 0 y1 (cx (AJ y1.s)):=⟨fun k hk=>qq0,fun i row e hl=>by show lk (AJ y1.s).h i=_;rw[L2,hl];rfl⟩;have eT:∀b,¬ QB m (AJ y1.s) b:=fun b ⟨i,c,hc,ho,_⟩=>by rw[L2]at hc;obtain⟨_,l,e,rfl⟩:=S5 hc;simp[Own]at ho
 refine(h (fun _ _=>False) (cx (AJ y1.s)) vs m w cargs rfl ⟨fun k b hb=>by simp[cx,gt]at hb,fun k k' b b' i hb=>by simp[cx,gt]at hb,fun i b hb=>?_⟩ (fun _ _ O=>O.elim) (fD.ke.E ha a5) eO.fits (cC.ext (aN.refl _ _) (Nat.le_trans pH.nx eO.nx))).mono ?_;have cK:lk (AJ y1.s).h i=some b:=hb;rw[L2]at cK;exact a3.bd i b (S5 cK).1;rintro e vX ⟨y2,DX,u',v',cv,rfl,⟨rfl,_⟩,aS,iP,_,_,yW,_,_⟩;have hv:=(KU u' v hu y2 v').1 yW;subst hv;have hcv:cv=v':=by rw[<-iP.at,B9]
 subst hcv;have nW:∀b,b<w.heap.size->vX.heap[b]? = w.heap[b]?:=fun b aE=>aS.same b aE (eT b);refine⟨x,m,u',cv,cv,rfl,⟨rfl,hx⟩,⟨aN.refl _ _,zF _,fun m' jR=>?_,fun b h=>.inl h,fun b aE _=>nW b aE,aS.size,aS.os,aS.tape,aS.output⟩,fun m' _=>B9 m',hh,fG,(KU u' cv hu x cv).2 rfl,Ke.refl _ _,zF _⟩;have CQ:=dV m' jR;exact⟨fun i b hb=>(CQ.ok i b hb).world (nW _ (CQ.size hb)),CQ.inj,CQ.bd⟩
abbrev RK:=Nat×eM
def RH(P:DC)(T:Tb)(aA:X Oper):X Oper->X U->Sg->X RK->(X RK->X U->Sg->Prop)->Prop
 |[],tm,Y,aZ,K=>K aZ tm Y|o::r,tm,Y,aZ,K=>(c8 aA tm o=some true/\∃u,bI T Y tm o.op=some (u,Y)/\RH P T aA r (eH tm o.dst u) Y ((1,⟨tm,o,u,false,false,Y,Y⟩)::aZ) K)\/ (c8 aA tm o=some true/\∃u Y',bI T Y tm o.op=some (u,Y')/\RH P T aA r (eH tm o.dst u) Y' ((3,⟨tm,o,u,true,true,Y,Y'⟩)::aZ) K)\/ (c8 aA tm o=some true/\∃f args u,jO T tm o.op=some (f,args)/\aW P f args Y (fun u' Y'=>u'=u/\Y'=Y)/\RH P T aA r (eH tm o.dst u) Y ((2,⟨tm,o,u,true,false,Y,Y⟩)::aZ) K)\/ (c8 aA tm o=some true/\∃f args u Y',jO T tm o.op=some (f,args)/\aW P f args Y (fun u' s'=>u'=u/\s'=Y')/\RH P T aA r (eH tm o.dst u) Y' ((3,⟨tm,o,u,true,true,Y,Y'⟩)::aZ) K)\/ (c8 aA tm o=some false/\RH P T aA r (eH tm o.dst (.tup [])) Y ((0,⟨tm,o,.tup [],false,false,Y,Y⟩)::aZ) K)\/ (c8 aA tm o=some true/\∃u,sX P T tm o.op u/\RH P T aA r (eH tm o.dst u) Y ((0,⟨tm,o,u,false,false,Y,Y⟩)::aZ) K)\/ (c8 aA tm o=some true/\∃u1 s1 d u Y',bI T Y tm o.op=some (u1,s1)/\o.dst=some d/\d<tm.length/\Gh s1.nx [u1] s1 [u] Y'/\s1.nx<=Y'.nx/\RH P T aA r (eH tm o.dst u) Y' ((3,⟨tm,o,u,true,true,Y,Y'⟩)::aZ) K)
def kindOk(T:Tb)(aA:X Oper)(x:RK):Prop :=
 (x.1=0/\(c8 aA x.2.tm x.2.o=some false\/bI T x.2.s x.2.tm x.2.o.op≠some (x.2.u,x.2.s'))/\x.2.act=false/\x.2.mv=false)\/(x.1=1/\x.2.act=false/\x.2.mv=false)\/(x.1=2/\x.2.act=true/\x.2.mv=false)\/(x.1=3/\x.2.act=true/\x.2.mv=true)
def RD.mono{P:DC}{T:Tb}{aA:X Oper}:∀{rest:X Oper}{tm:X U}{Y:Sg}{K K':X eM->X U->Sg->Prop},(∀rs tm Y,K rs tm Y->K' rs tm Y)->RD P T aA rest tm Y K->RD P T aA rest tm Y K'
 |[],tm,Y,K,K',hk,h=>hk _ _ _ h|o::rest,tm,Y,K,K',hk,h=>by simp only[RD]at h ⊢;rcases h with⟨hw,u,h1,h2⟩|⟨hw,u,Y1,h1,h2⟩|⟨hw,f,args,u,h1,h2,h3⟩|⟨hw,f,args,u,Y1,h1,h2,h3⟩|⟨hw,h1⟩|⟨hw,u,h1,h3⟩|⟨hw,u1,s1,d,u,Y1,h1,h2,h3,h4,h5,h6⟩;exact .inl ⟨hw,u,h1,RD.mono (fun _ _ _ h=>hk _ _ _ h) h2⟩;exact .inr (.inl ⟨hw,u,Y1,h1,RD.mono (fun _ _ _ h=>hk _ _ _ h) h2⟩);exact .inr (.inr (.inl ⟨hw,f,args,u,h1,h2,RD.mono (fun _ _ _ h=>hk _ _ _ h) h3⟩));exact .inr (.inr (.inr (.inl ⟨hw,f,args,u,Y1,h1,h2,RD.mono (fun _ _ _ h=>hk _ _ _ h) h3⟩)));exact .inr (.inr (.inr (.inr (.inl ⟨hw,RD.mono (fun _ _ _ h=>hk _ _ _ h) h1⟩))));exact .inr (.inr (.inr (.inr (.inr (.inl ⟨hw,u,h1,RD.mono (fun _ _ _ h=>hk _ _ _ h) h3⟩)))));exact .inr (.inr (.inr (.inr (.inr (.inr ⟨hw,u1,s1,d,u,Y1,h1,h2,h3,h4,h5,RD.mono (fun _ _ _ h=>hk _ _ _ h) h6⟩)))))
def RH.rd{P:DC}{T:Tb}{aA:X Oper}:∀{rest:X Oper}{tm:X U}{Y:Sg}{aZ:X RK}{K:X RK->X U->Sg->Prop},RH P T aA rest tm Y aZ K->
  RD P T aA rest tm Y (fun rs tm' Y'=>∃ks:X RK,ks.map (·.2)=rs/\(∀x∈ks,kindOk T aA x)/\K (ks.reverse++aZ) tm' Y')
 |[],tm,Y,aZ,K,h=>⟨[],rfl,by simp,h⟩|o::rest,tm,Y,aZ,K,h=>by
  have step:∀(k:RK),kindOk T aA k->∀(rs:X eM)(tm':X U)(Y':Sg),(∃ks:X RK,ks.map (·.2)=rs/\(∀x∈ks,kindOk T aA x)/\K (ks.reverse++k::aZ) tm' Y')->
    ∃ks:X RK,ks.map (·.2)=k.2::rs/\(∀x∈ks,kindOk T aA x)/\K (ks.reverse++aZ) tm' Y':=by
   rintro k hk rs tm' Y' ⟨ks,h1,h2,h3⟩;refine⟨k::ks,by simp[h1],?_,by simpa using h3⟩;intro x hx;rcases zI.1 hx with rfl |hx;exact hk;exact h2 x hx
  simp only[RH]at h;simp only[RD];rcases h with⟨hw,u,h1,h2⟩|⟨hw,u,Y1,h1,h2⟩|⟨hw,f,args,u,h1,h2,h3⟩|⟨hw,f,args,u,Y1,h1,h2,h3⟩|⟨hw,h1⟩|⟨hw,u,h1,h3⟩|⟨hw,u1,s1,d,u,Y1,h1,h2,h3,h4,h5,h6⟩;exact .inl ⟨hw,u,h1,RD.mono (step (1,_) (.inr (.inl ⟨rfl,rfl,rfl⟩))) (RH.rd h2)⟩;exact .inr (.inl ⟨hw,u,Y1,h1,RD.mono (step (3,_) (.inr (.inr (.inr ⟨rfl,rfl,rfl⟩)))) (RH.rd h2)⟩);exact .inr (.inr (.inl ⟨hw,f,args,u,h1,h2,RD.mono (step (2,_) (.inr (.inr (.inl ⟨rfl,rfl,rfl⟩)))) (RH.rd h3)⟩));exact .inr (.inr (.inr (.inl ⟨hw,f,args,u,Y1,h1,h2,RD.mono (step (3,_) (.inr (.inr (.inr ⟨rfl,rfl,rfl⟩)))) (RH.rd h3)⟩)));exact .inr (.inr (.inr (.inr (.inl ⟨hw,RD.mono (step (0,_) (.inl ⟨rfl,.inl hw,rfl,rfl⟩)) (RH.rd h1)⟩))));exact .inr (.inr (.inr (.inr (.inr (.inl ⟨hw,u,h1,RD.mono (step (0,_) (.inl ⟨rfl,.inr (h1.noop _),rfl,rfl⟩)) (RH.rd h3)⟩)))));exact .inr (.inr (.inr (.inr (.inr (.inr ⟨hw,u1,s1,d,u,Y1,h1,h2,h3,h4,h5,RD.mono (step (3,_) (.inr (.inr (.inr ⟨rfl,rfl,rfl⟩)))) (RH.rd h6)⟩)))))
def allI{v12:Type}(p:Nat->v12->PE):Nat->X v12->PE
 |_,[]=>true|b,x::l=>p b x&&allI p (b+1) l
def rq{v12:Type}{p:Nat->v12->PE}:∀{b:Nat}{l:X v12},allI p b l=true->∀{j:Nat}{x:v12},l[j]? = some x->p (b+j) x=true
 |b,[],_,j,x,hx=>by simp at hx
 |b,y::l,h,j,x,hx=>by
  simp only[allI,Bool.and_eq_true]at h;cases j with
  |zero=>simp at hx;subst hx;exact h.1|succ j=>
   simp only[zH]at hx;have:=rq h.2 hx
   rwa [show b+1+j=b+(j+1) by omega]at this
def Jz(k:Nat):Nat:=cond (Nat.beq k 3) 1 0
def trip:Nat->X Nat->X Nat->X (Nat×Nat×Nat)
 |c,k::ks,m::ms=>(k,m,c)::trip (c+Jz k) ks ms|_,_,_=>[]
def oX:X Nat->Nat
 |[]=>0|k::ks=>Jz k+oX ks
def z3b:∀(ks ms:X Nat)(c j k m:Nat),ks[j]? = some k->ms[j]? = some m->(trip c ks ms)[j]? = some (k,m,c+oX (ks.take j))
 |[],_,c,j,k,m,h,_=>by simp at h
 |_::_,[],c,j,k,m,_,h=>by simp at h
 |k0::ks,m0::ms,c,0,k,m,h1,h2=>by simp at h1 h2;subst h1;subst h2;simp[trip,oX]
 |k0::ks,m0::ms,c,j+1,k,m,h1,h2=>by simp only[zH]at h1 h2;simp only[trip,zH,List.take_succ_cons,oX];rw[z3b ks ms _ j k m h1 h2];simp only[Nat.add_assoc]
def DY(i k:Nat):X (Nat×Nat)->PE
 |[]=>false|p::l=>(Nat.beq i p.1&&Nat.beq k p.2)||DY i k l
def oj{i k:Nat}:∀{l:X (Nat×Nat)},DY i k l=true->(i,k)∈l
 |[],h=>by simp[DY]at h
 |p::l,h=>by simp only[DY,Bool.or_eq_true,Bool.and_eq_true]at h;rcases h with⟨h1,h2⟩|h;rw[Nat.eq_of_beq_eq_true h1,Nat.eq_of_beq_eq_true h2];simp;exact List.mem_cons_of_mem _ (oj h)
def Th(pr:X (Nat×Nat))(i:Nat)(a:Nat×Nat×Nat)(k:Nat)(b:Nat×Nat×Nat):PE :=
 cond (Nat.ble 2 b.1) (cond (Nat.ble 2 a.1) (cond (Nat.blt k i) (Nat.testBit a.2.1 k) true) (cond (Nat.beq a.1 1) (cond (Nat.blt k i) (Nat.testBit a.2.1 k||(Nat.beq b.2.2 a.2.2||DY i k pr)) (Nat.testBit b.2.1 i||(Nat.beq a.2.2 (b.2.2+Jz b.1)||DY i k pr)))
    true))
  true
def flE(aA:X Oper)(ks:X Nat)(pr:X (Nat×Nat)):PE :=
 let L:=trip 0 ks (dY aA [])
 allI (fun i a=>allI (fun k b=>Th pr i a k b) 0 L) 0 L
def wm(T:Tb)(ks:X RK)(p:Nat×Nat):Prop:=match nth ks p.1,nth ks p.2 with
 |some r,some q=>cond (Nat.blt p.2 p.1) (bI T q.2.s r.2.tm r.2.o.op=some (r.2.u,q.2.s)) (bI T q.2.s' r.2.tm r.2.o.op=some (r.2.u,q.2.s'))|_,_=>False
def xp(T:Tb)(ks:X RK):X (Nat×Nat)->Prop
 |[]=>True|p::l=>wm T ks p/\xp T ks l
def p?{T:Tb}{ks:X RK}:∀{l:X (Nat×Nat)},xp T ks l->∀p∈l,wm T ks p
 |[],_,p,hp=>by cases hp
 |q::l,h,p,hp=>by rcases zI.1 hp with rfl |hp;exact h.1;exact p? h.2 p hp
def z4m{ks:X Nat}:∀{q p:Nat},p<=q->q<=ks.length->oX (ks.take p)=oX (ks.take q)->∀(e k:Nat),p<=e->e<q->ks[e]? = some k->k≠3
 |q,p,vN,hq,h,e,k,h1,h2,h3=>by
  have mono:∀(l:X Nat)(a b:Nat),a<=b->oX (l.take a)<=oX (l.take b):=by
   intro l;induction l with
   |nil=>intro a b _;simp[oX]|cons x l ih=>
    intro a b PJ;cases a with
    |zero=>simp[oX]|succ a=>cases b with|zero=>omega|succ b=>simp only[List.take_succ_cons,oX];have:=ih a b qq0;omega
  have succ:∀(l:X Nat)(a k:Nat),l[a]? = some k->oX (l.take (a+1))=oX (l.take a)+Jz k:=by
   intro l;induction l with
   |nil=>intro a k h;simp at h|cons x l ih=>
    intro a k h;cases a with
    |zero=>simp at h;subst h;simp[oX]|succ a=>simp only[zH]at h;simp only[List.take_succ_cons,oX];rw[ih a k h];omega
  intro hk;have a1:=mono ks p e h1;have a2:=succ ks e k h3;have a3:=mono ks (e+1) q qq0;rw[hk]at a2;have:Jz 3=1:=rfl;omega
section
variable{C:PG}{T:Tb}(hT:j0 C.prog T){n0:Nat}{Q:Exit->X U->Sg->Prop}{tm:X U}{Y:Sg}
include hT
def WPU.drawE {id : Nat} {aA : Zu Oper} (pr : X (Nat × Nat)) (dC : YP aA.toList = true)
    (h:RH C.prog T aA.toList aA.toList tm Y [] (fun ks tm' Y'=> flE aA.toList (ks.reverse.map (·.1)) pr=true/\xp T ks.reverse pr/\Q .normal tm' Y')):WPU C n0 (.region id aA true) tm Y Q:=by
  obtain⟨rs,tm',Y',⟨ks,xE,hkk,CT,mZ,hQ⟩,g2,g3,g4,g5⟩:=QX _ _ _ _ (RH.rd h);simp only[List.append_nil,List.reverse_reverse]at CT mZ;have j9:ct C.prog T aA.toList tm Y rs tm' Y':=⟨g2,g3,g4,fun i r hr=> by obtain⟨a,b,c,d,_⟩:=g5 i r hr;exact⟨a,b,c,d⟩⟩;have same : ∀(p q:Nat),p<=q->q<=rs.length->(∀(e:Nat)(r:eM),p<=e->e<q->rs[e]? = some r->r.mv=false)->jU rs Y' p=jU rs Y' q:=by
    intro p q vN hq eT;induction q with
    | zero => have : p = 0 := by omega
              rw[this]
    |succ q ih=>
      rcases Nat.lt_or_ge q p with h |h;have:p=q+1:=by omega
      rw[this];rw[ih h qq0 fun e r h1 h2 h3=> eT e r h1 qq0 h3];have hr:rs[q]? = some rs[q]:=by simp[show q<rs.length by omega]
      obtain⟨_,_,k3,_,k5,_⟩:=g5 q _ hr;rw[k3,k5 (eT q _ h (zN _) hr)];simp[jU,hr]
  have aQ:ks.length=rs.length:=by rw[<-xE];simp
  have at_ : ∀(i:Nat)(r:eM),rs[i]? = some r->∃k,ks[i]? = some (k,r)/\kindOk T aA.toList (k,r):=by intro i r hr;rw[<-xE]at hr;simp only[List.getElem?_map]at hr;rcases hk:ks[i]? with _|x;rw[hk]at hr;simp at hr;obtain⟨k,r'⟩:=x;rw[hk]at hr;simp at hr;subst hr;exact⟨k,rfl,hkk _ (zX hk)⟩
  have trp : ∀(i k:Nat)(r:eM),ks[i]? = some (k,r)->∃m,(dY aA.toList [])[i]? = some m/\(trip 0 (ks.map (·.1)) (dY aA.toList []))[i]? = some (k,m,oX ((ks.map (·.1)).take i)):=by
    intro i k r hk;obtain⟨m1,_,_⟩:=U_ aA.toList [];have hi:i<aA.toList.length:=by rw[<-g2, <-aQ];exact(zG.1 hk).1
    have hm:i<(dY aA.toList []).length:=by rw[m1];simpa using hi
    refine⟨(dY aA.toList [])[i],by simp[hm], ?_⟩;have:=z3b (ks.map (·.1)) (dY aA.toList []) 0 i k _ (by simp[hk]) (show(dY aA.toList [])[i]? = some (dY aA.toList [])[i] by simp[hm])
    rwa [Nat.zero_add]at this
  have chk : ∀ (i k ki kk : Nat) (r q : eM), ks[i]? = some (ki, r) -> ks[k]? = some (kk, q) -> ∃ mi mk, (dY aA.toList [])[i]? = some mi /\ (dY aA.toList [])[k]? = some mk /\
      Th pr i (ki,mi,oX ((ks.map (·.1)).take i)) k (kk,mk,oX ((ks.map (·.1)).take k))=true:=by
    intro i k ki kk r q hi hk;obtain⟨mi,e1,e2⟩:=trp i ki r hi;obtain⟨mk,e3,e4⟩:=trp k kk q hk;refine⟨mi,mk,e1,e3, ?_⟩;have h1:=rq CT e2;have h2:=rq h1 e4;simpa using h2
  have nomv : ∀(p q:Nat),p<=q->q<=rs.length->oX ((ks.map (·.1)).take p)=oX ((ks.map (·.1)).take q)->jU rs Y' p=jU rs Y' q:=by
    intro p q vN hq hc;refine same p q vN hq fun e r h1 h2 h3=> ?_;obtain⟨k,hk,We⟩:=at_ e r h3;have:=z4m vN (by simp;omega) hc e k h1 h2 (by simp[hk]);rcases We with h |h |h |h
    exact h.2.2.2;exact h.2.2;exact h.2.2;exact absurd h.1 this
  have kact : ∀(i:Nat)(r:eM),rs[i]? = some r->r.act=true->∃k,ks[i]? = some (k,r)/\Nat.ble 2 k=true:=by intro i r hr ha;obtain⟨k,hk,We⟩:=at_ i r hr;refine⟨k,hk, ?_⟩;rcases We with h |h |h |h;have:=h.2.2.1;simp only[]at this;rw[ha]at this;cases this;have:=h.2.1;simp only[]at this;rw[ha]at this;cases this;have:=h.1;simp only[]at this;subst this;rfl;have:=h.1;simp only[]at this;subst this;rfl
  have kqu : ∀(i:Nat)(r:eM),rs[i]? = some r->r.act=false->c8 aA.toList r.tm r.o=some true->bI T r.s r.tm r.o.op=some (r.u,r.s')->ks[i]? = some (1,r):=by intro i r hr ha hw hl;obtain⟨k,hk,We⟩:=at_ i r hr;rcases We with h |h |h |h;rcases h.2.1 with h' |h';simp only[]at h';rw[hw]at h';cases h';exact absurd hl h';have:=h.1;simp only[]at this;subst this;exact hk;have:=h.2.1;simp only[]at this;rw[ha]at this;cases this;have:=h.2.1;simp only[]at this;rw[ha]at this;cases this
  have succ : ∀(l:X Nat)(a k:Nat),l[a]? = some k->oX (l.take (a+1))=oX (l.take a)+Jz k:=by
    intro l;induction l with
    |nil=> intro a k h;simp at h|cons x l ih=>
      intro a k h;cases a with
      |zero=> simp at h;subst h;simp[oX]|succ a=> simp only[zH]at h;simp only[List.take_succ_cons,oX];rw[ih a k h];omega
  refine WPU.drawn hT dC j9 ⟨fun i k r q hr hq ha hb aE=> ?_,fun i k r q hr hq ha hw hl hb aE=> ?_,fun i k r q hr hq ha hw hl hb aE=> ?_⟩ (fun i r hr h=> (g5 i r hr).2.2.2.2.2 h) hQ;obtain⟨ki,h1,h2⟩:=kact i r hr ha;obtain⟨kk,h3,h4⟩:=kact k q hq hb;obtain⟨mi,mk,e1,e2,e3⟩:=chk i k ki kk r q h1 h3;simp only[Th,h2,h4,zC,wG aE]at e3;exact⟨mi,e1,e3⟩;have h1:=kqu i r hr ha hw hl;obtain⟨kk,h3,h4⟩:=kact k q hq hb;obtain⟨mi,mk,e1,e2,e3⟩:=chk i k 1 kk r q h1 h3;have hb1:Nat.ble 2 1=false:=rfl;have hb2:Nat.beq 1 1=true:=rfl;simp only[Th,hb1,hb2,h4,zC,zD,wG aE,Bool.or_eq_true]at e3;rcases e3 with e3 |e3 |e3;exact .inl ⟨mi,e1,e3⟩;have:=nomv k i qq0 (by have:=(zG.1 hr).1;omega) (Nat.eq_of_beq_eq_true e3);exact .inr (.inl (by simpa[jU,hr,hq]using this));have:=p? mZ _ (oj e3);simp only[wm,kK,h1,h3,wG aE,zC]at this;exact .inr (.inr this);have h1:=kqu i r hr ha hw hl;obtain⟨kk,h3,h4⟩:=kact k q hq hb;obtain⟨mi,mk,e1,e2,e3⟩:=chk i k 1 kk r q h1 h3;have hb1:Nat.ble 2 1=false:=rfl;have hb2:Nat.beq 1 1=true:=rfl;simp only[Th,hb1,hb2,h4,zC,zD,RX (show ¬ k<i by omega),Bool.or_eq_true]at e3;rcases e3 with e3 |e3 |e3;exact .inl ⟨mk,e2,e3⟩;have hc:oX ((ks.map (·.1)).take i)=oX ((ks.map (·.1)).take (k+1)):=by rw[succ _ k kk (by simp[h3])];exact Nat.eq_of_beq_eq_true e3
  have:=nomv i (k+1) qq0 (by have:=(zG.1 hq).1;omega) hc;have h2:=(j9.all k q hq).2.2.1;rw[h2]at this;exact .inr (.inl (by simpa[jU,hr]using this.symm));have:=p? mZ _ (oj e3);simp only[wm,kK,h1,h3,RX (show ¬ k<i by omega),zD]at this;exact .inr (.inr this)
end
def RH.call{P:DC}{T:Tb}{aA r:X Oper}{o:Oper}{tm:X U}{Y:Sg}{aZ:X RK}{K:X RK->X U->Sg->Prop}{f:FuncId}{args:X U}{u:U}(hw:c8 aA tm o=some true)(hc:jO T tm o.op=some (f,args))(jJ:aW P f args Y (fun u' Y'=>u'=u/\Y'=Y))
  (h:RH P T aA r (eH tm o.dst u) Y ((2,⟨tm,o,u,true,false,Y,Y⟩)::aZ) K):RH P T aA (o::r) tm Y aZ K:=.inr (.inr (.inl ⟨hw,f,args,u,hc,jJ,h⟩))
def RH.callM{P:DC}{T:Tb}{aA r:X Oper}{o:Oper}{tm:X U}{Y Y1:Sg}{aZ:X RK}{K:X RK->X U->Sg->Prop}{f:FuncId}{args:X U}{u:U}(hw:c8 aA tm o=some true)(hc:jO T tm o.op=some (f,args))(jJ:aW P f args Y (fun u' Y'=>u'=u/\Y'=Y1))
  (h:RH P T aA r (eH tm o.dst u) Y1 ((3,⟨tm,o,u,true,true,Y,Y1⟩)::aZ) K):RH P T aA (o::r) tm Y aZ K:=.inr (.inr (.inr (.inl ⟨hw,f,args,u,Y1,hc,jJ,h⟩)))
mutual
def rU(Z:Nat->Nat):U->U
 |.ptr k st off=>.ptr (Z k) st off|.sl k off n c=>.sl (Z k) off n c
 |.vl k st off n=>.vl (Z k) st off n|.map k=>.map (Z k)
 |.iptr l=>.iptr (fB Z l)|.isl t l=>.isl t (tK Z l)
 |.fn f a b=>.fn f (fB Z a) (fB Z b)|.agg l=>.agg (fB Z l)
 |.tup l=>.tup (fB Z l)|u=>u
def fB(Z:Nat->Nat):X U->X U
 |[]=>[]|u::l=>rU Z u::fB Z l
def tK(Z:Nat->Nat):X (X U)->X (X U)
 |[]=>[]|c::l=>fB Z c::tK Z l
end
def DO(Z:Nat->Nat):∀l,(fB Z l).length=l.length
 |[]=>rfl|u::l=>by simp[fB,DO Z l]
def Gw(Z:Nat->Nat):∀l,(tK Z l).length=l.length
 |[]=>rfl|u::l=>by simp[tK,Gw Z l]
def Ti(Z:Nat->Nat)(u:U):okC (rU Z u)=okC u:=by cases u<;>simp[rU,okC]
def GU(Z:Nat->Nat):∀l,okL (fB Z l)=okL l
 |[]=>rfl|u::l=>by simp[fB,okL,Ti,GU Z l]
structure W0(n:Nat)(Z:Nat->Nat)(x y:Cx):Prop where
 ptr:∀k st off v,k<n->aC x (.ptr k st off) v->aC y (.ptr (Z k) st off) v
 sl:∀k off m c v,k<n->aC x (.sl k off m c) v->aC y (.sl (Z k) off m c) v
 vl:∀k st off m v,k<n->aC x (.vl k st off m) v->aC y (.vl (Z k) st off m) v
 map:∀k v,k<n->aC x (.map k) v->aC y (.map (Z k)) v
 imm:∀i row e,lk x.s.h i=some (.inl (row,e,1))->lk y.s.h i=some (.inl (row,e,1))
mutual
def aC.leaf{n:Nat}{Z:Nat->Nat}{x y:Cx}(h:W0 n Z x y):(u:U)->(v:Value)->aT n u->aC x u v->aC y (rU Z u) v
 |.junk,v,_,_=>by simp[rU,aC]
 |.bool b,v,_,hr=>by simpa[rU,aC]using hr
 |.int k z,v,_,hr=>by simpa[rU,aC]using hr
 |.str l,v,_,hr=>by simpa[rU,aC]using hr
 |.nilp,v,_,hr=>by simpa[rU,aC]using hr
 |.ptr k st off,v,hb,hr=>h.ptr k st off v (by simpa[aT]using hb) hr|.iptr l,v,hb,hr=>by simp only[rU,aC]at*;obtain⟨i,off,row,e,h1,h2,h3,h4⟩:=hr;exact⟨i,off,row,e,h1,h.imm _ _ _ h2,c9.leaf h l _ (by simpa[aT]using hb) h3,by rw[GU];exact h4⟩
 |.nils,v,_,hr=>by simpa[rU,aC]using hr
 |.sl k off m c,v,hb,hr=>h.sl k off m c v (by simpa[aT]using hb) hr|.vl k st off m,v,hb,hr=>h.vl k st off m v (by simpa[aT]using hb) hr
 |.isl t l,v,hb,hr=>by simp only[rU,aC]at*;rcases hr with⟨rfl,hr⟩|⟨i,off,c,h1,h2,h3⟩;exact .inl ⟨rfl,hr⟩;rw[Gw];refine .inr ⟨i,off,c,h1,h2,?_⟩;rcases h3 with rfl |⟨row,e,sz,g1,g2,g3⟩;exact .inl rfl;exact .inr ⟨row,e,sz,h.imm _ _ _ g1,gY.leaf h l _ (by simpa[aT]using hb) g2,g3⟩
 |.nilm,v,_,hr=>by simpa[rU,aC]using hr
 |.map k,v,hb,hr=>h.map k v (by simpa[aT]using hb) hr|.fn f a b,v,hb,hr=>by simp only[rU,aC]at*;obtain⟨va,vb,h1,h2,h3,h4,h5⟩:=hr;simp only[aT]at hb;exact⟨va,vb,h1,c9.leaf h a _ hb.1 h2,by rw[DO];exact h3,c9.leaf h b _ hb.2 h4,by rw[DO];exact h5⟩
 |.nilf,v,_,hr=>by simpa[rU,aC]using hr
 |.nili,v,_,hr=>by simpa[rU,aC]using hr
 |.agg l,v,hb,hr=>by simp only[rU,aC]at*;obtain⟨vs,h1,h2,h3,h4⟩:=hr;exact⟨vs,h1,c9.leaf h l _ (by simpa[aT]using hb) h2,by rw[DO];exact h3,by rw[GU];exact h4⟩
 |.tup l,v,hb,hr=>by simp only[rU,aC]at*;obtain⟨vs,h1,h2,h3⟩:=hr;exact⟨vs,h1,c9.leaf h l _ (by simpa[aT]using hb) h2,by rw[DO];exact h3⟩
def c9.leaf{n:Nat}{Z:Nat->Nat}{x y:Cx}(h:W0 n Z x y):(l:X U)->(vs:X Value)->aG n l->c9 x l vs->c9 y (fB Z l) vs
 |[],vs,_,_=>by simp[fB,c9]
 |u::l,[],_,hr=>by simp[c9]at hr
 |u::l,v::vs,hb,hr=>by simp only[fB,c9,aG]at*;exact⟨aC.leaf h u v hb.1 hr.1,c9.leaf h l vs hb.2 hr.2⟩
def gY.leaf{n sz:Nat}{Z:Nat->Nat}{x y:Cx}(h:W0 n Z x y):(l:X (X U))->(vs:X Value)->kJ n l->gY x sz l vs->gY y sz (tK Z l) vs
 |[],vs,_,_=>by simp[tK,gY]
 |c::l,vs,hb,hr=>by simp only[tK,gY,kJ]at*;exact⟨by rw[DO];exact hr.1,by rw[GU];exact hr.2.1,c9.leaf h c vs hb.1 hr.2.2.1,gY.leaf h l _ hb.2 hr.2.2.2⟩
end
def rM(Z:Nat->Nat)(e:ME):ME:=⟨rU Z e.key,rU Z e.val,e.born⟩
def rB(Z:Nat->Nat):B->B
 |.row l e=>.row (fB Z l) e|.vec l e sz st=>.vec (fB Z l) e sz st
 |.map es cl=>.map (es.map (rM Z)) cl
def R5(Z:Nat->Nat)(b:B):(rB Z b).st=b.st:=by cases b<;>rfl
mutual
def xn{n:Nat}{Z κ:Nat->Nat}(h:∀k,k<n->κ (Z k)=k):(u:U)->aT n u->rU κ (rU Z u)=u
 |.ptr k _ _,hb=>by simp only[aT]at hb;simp[rU,h k hb]
 |.sl k _ _ _,hb=>by simp only[aT]at hb;simp[rU,h k hb]
 |.vl k _ _ _,hb=>by simp only[aT]at hb;simp[rU,h k hb]
 |.map k,hb=>by simp only[aT]at hb;simp[rU,h k hb]
 |.iptr l,hb=>by simp only[aT]at hb;simp[rU,RY h l hb]
 |.isl t l,hb=>by simp only[aT]at hb;simp[rU,k_ h l hb]
 |.fn f a b,hb=>by simp only[aT]at hb;simp[rU,RY h a hb.1,RY h b hb.2]
 |.agg l,hb=>by simp only[aT]at hb;simp[rU,RY h l hb]
 |.tup l,hb=>by simp only[aT]at hb;simp[rU,RY h l hb]
 |.junk,_=>rfl|.bool _,_=>rfl
 |.int _ _,_=>rfl|.str _,_=>rfl
 |.nilp,_=>rfl|.nils,_=>rfl
 |.nilm,_=>rfl|.nilf,_=>rfl
 |.nili,_=>rfl
def RY{n:Nat}{Z κ:Nat->Nat}(h:∀k,k<n->κ (Z k)=k):(l:X U)->aG n l->fB κ (fB Z l)=l
 |[],_=>rfl|u::l,hb=>by simp only[aG]at hb;simp[fB,xn h u hb.1,RY h l hb.2]
def k_{n:Nat}{Z κ:Nat->Nat}(h:∀k,k<n->κ (Z k)=k):(l:X (X U))->kJ n l->tK κ (tK Z l)=l
 |[],_=>rfl|c::l,hb=>by simp only[kJ]at hb;simp[tK,RY h c hb.1,k_ h l hb.2]
end
def bA.leaf{n:Nat}{Z:Nat->Nat}{x y:Cx}(h:W0 n Z x y){l:X U}{vs:X Value}(hb:aG n l)(hr:bA x l vs):bA y (fB Z l) vs:=⟨c9.leaf h l vs hb hr.1,by rw[DO];exact hr.2⟩
def nO.leaf{n:Nat}{Z:Nat->Nat}{x y:Cx}(h:W0 n Z x y){k j:Nat}{b:B}(hb:BelB n b)(jI:y.I j=x.I k)(hl:∀i c,x.I k=some i->lk x.s.h i=some c->lk y.s.h i=some c)(hB:nO x k b):nO y j (rB Z b):=by
 cases b with
 |row l e=>obtain⟨k1,i,l',e1,e2,e3⟩:=hB;exact⟨by rw[GU];exact k1,i,l',by rw[jI,e1],hl _ _ e1 e2,bA.leaf h hb e3⟩
 |vec l e sz st=>obtain⟨k1,k2,h3⟩:=hB;refine⟨by rw[GU];exact k1,k2,?_⟩;rcases h3 with⟨rfl,h4⟩|⟨i,l',e1,e2,e3⟩;exact .inl ⟨rfl,by rw[jI,h4]⟩;exact .inr ⟨i,l',by rw[jI,e1],hl _ _ e1 e2,bA.leaf h hb e3⟩
 |map es cl=>obtain⟨i,es',e1,e2,e3,e4⟩:=hB;refine⟨i,es',by rw[jI,e1],hl _ _ e1 e2,by simpa using e3,fun j e he=>?_⟩;simp only[List.getElem?_map]at he;rcases hj:es[j]? with _|e0;rw[hj]at he;cases he;rw[hj]at he;simp only[zM,zA]at he;subst he;obtain⟨v,q1,q2,q3,q4⟩:=e4 j e0 hj;have Xe:=hb e0 (zX hj);exact⟨v,q1,aC.leaf h _ _ Xe.1 q2,aC.leaf h _ _ Xe.2 q3,q4⟩
structure RN(n:Nat)(Z:Nat->Nat)(x y:Cx):Prop where
 ptr:∀k st off v,k<n->aC x (.ptr (Z k) st off) v->aC y (.ptr k st off) v
 sl:∀k off m c v,k<n->aC x (.sl (Z k) off m c) v->aC y (.sl k off m c) v
 vl:∀k st off m v,k<n->aC x (.vl (Z k) st off m) v->aC y (.vl k st off m) v
 map:∀k v,k<n->aC x (.map (Z k)) v->aC y (.map k) v
 imm:∀i row e,lk x.s.h i=some (.inl (row,e,1))->lk y.s.h i=some (.inl (row,e,1))
mutual
def aC.unleaf{n:Nat}{Z:Nat->Nat}{x y:Cx}(h:RN n Z x y):(u:U)->(v:Value)->aT n u->aC x (rU Z u) v->aC y u v
 |.junk,v,_,_=>by simp[aC]
 |.bool b,v,_,hr=>by simpa[rU,aC]using hr
 |.int k z,v,_,hr=>by simpa[rU,aC]using hr
 |.str l,v,_,hr=>by simpa[rU,aC]using hr
 |.nilp,v,_,hr=>by simpa[rU,aC]using hr
 |.ptr k st off,v,hb,hr=>h.ptr k st off v (by simpa[aT]using hb) hr|.iptr l,v,hb,hr=>by simp only[rU,aC]at*;obtain⟨i,off,row,e,h1,h2,h3,h4⟩:=hr;exact⟨i,off,row,e,h1,h.imm _ _ _ h2,c9.unleaf h l _ (by simpa[aT]using hb) h3,by rw[GU]at h4;exact h4⟩
 |.nils,v,_,hr=>by simpa[rU,aC]using hr
 |.sl k off m c,v,hb,hr=>h.sl k off m c v (by simpa[aT]using hb) hr|.vl k st off m,v,hb,hr=>h.vl k st off m v (by simpa[aT]using hb) hr
 |.isl t l,v,hb,hr=>by simp only[rU,aC]at*;rcases hr with⟨h0,hr⟩|⟨i,off,c,h1,h2,h3⟩;exact .inl ⟨List.eq_nil_of_length_eq_zero (by rw[<-Gw Z,h0];rfl),hr⟩;rw[Gw]at h1 h2;refine .inr ⟨i,off,c,h1,h2,?_⟩;rcases h3 with h3 |⟨row,e,sz,g1,g2,g3⟩;exact .inl (List.eq_nil_of_length_eq_zero (by rw[<-Gw Z,h3];rfl));rw[Gw]at g3;exact .inr ⟨row,e,sz,h.imm _ _ _ g1,gY.unleaf h l _ (by simpa[aT]using hb) g2,g3⟩
 |.nilm,v,_,hr=>by simpa[rU,aC]using hr
 |.map k,v,hb,hr=>h.map k v (by simpa[aT]using hb) hr|.fn f a b,v,hb,hr=>by simp only[rU,aC]at*;obtain⟨va,vb,h1,h2,h3,h4,h5⟩:=hr;simp only[aT]at hb;rw[DO]at h3 h5;exact⟨va,vb,h1,c9.unleaf h a _ hb.1 h2,h3,c9.unleaf h b _ hb.2 h4,h5⟩
 |.nilf,v,_,hr=>by simpa[rU,aC]using hr
 |.nili,v,_,hr=>by simpa[rU,aC]using hr
 |.agg l,v,hb,hr=>by simp only[rU,aC]at*;obtain⟨vs,h1,h2,h3,h4⟩:=hr;rw[DO]at h3;rw[GU]at h4;exact⟨vs,h1,c9.unleaf h l _ (by simpa[aT]using hb) h2,h3,h4⟩
 |.tup l,v,hb,hr=>by simp only[rU,aC]at*;obtain⟨vs,h1,h2,h3⟩:=hr;rw[DO]at h3;exact⟨vs,h1,c9.unleaf h l _ (by simpa[aT]using hb) h2,h3⟩
def c9.unleaf{n:Nat}{Z:Nat->Nat}{x y:Cx}(h:RN n Z x y):(l:X U)->(vs:X Value)->aG n l->c9 x (fB Z l) vs->c9 y l vs
 |[],vs,_,_=>by simp[c9]
 |u::l,[],_,hr=>by simp[fB,c9]at hr
 |u::l,v::vs,hb,hr=>by simp only[fB,c9,aG]at*;exact⟨aC.unleaf h u v hb.1 hr.1,c9.unleaf h l vs hb.2 hr.2⟩
def gY.unleaf{n sz:Nat}{Z:Nat->Nat}{x y:Cx}(h:RN n Z x y):(l:X (X U))->(vs:X Value)->kJ n l->gY x sz (tK Z l) vs->gY y sz l vs
 |[],vs,_,_=>by simp[gY]
 |c::l,vs,hb,hr=>by simp only[tK,gY,kJ]at*;exact⟨by rw[<-DO Z];exact hr.1,by rw[<-GU Z];exact hr.2.1,c9.unleaf h c vs hb.1 hr.2.2.1,gY.unleaf h l _ hb.2 hr.2.2.2⟩
end
def bA.unleaf{n:Nat}{Z:Nat->Nat}{x y:Cx}(h:RN n Z x y){l:X U}{vs:X Value}(hb:aG n l)(hr:bA x (fB Z l) vs):bA y l vs:=⟨c9.unleaf h l vs hb hr.1,by rw[<-DO Z];exact hr.2⟩
def nO.unleaf{n:Nat}{Z:Nat->Nat}{x y:Cx}(h:RN n Z x y){k j:Nat}{b:B}(hb:BelB n b)(jI:y.I j=x.I k)(hl:∀i c,x.I k=some i->lk x.s.h i=some c->lk y.s.h i=some c)(hB:nO x k (rB Z b)):nO y j b:=by
 cases b with
 |row l e=>obtain⟨k1,i,l',e1,e2,e3⟩:=hB;exact⟨by rw[GU]at k1;exact k1,i,l',by rw[jI,e1],hl _ _ e1 e2,bA.unleaf h hb e3⟩
 |vec l e sz st=>obtain⟨k1,k2,h3⟩:=hB;rw[GU]at k1;refine⟨k1,k2,?_⟩;rcases h3 with⟨h3,h4⟩|⟨i,l',e1,e2,e3⟩;exact .inl ⟨List.eq_nil_of_length_eq_zero (by rw[<-DO Z,h3];rfl),by rw[jI,h4]⟩;exact .inr ⟨i,l',by rw[jI,e1],hl _ _ e1 e2,bA.unleaf h hb e3⟩
 |map es cl=>
  obtain⟨i,es',e1,e2,e3,e4⟩:=hB;refine⟨i,es',by rw[jI,e1],hl _ _ e1 e2,by simpa using e3,fun j e he=>?_⟩;have hj:(es.map (rM Z))[j]? = some (rM Z e):=by simp[he]
  obtain⟨v,q1,q2,q3,q4⟩:=e4 j _ hj;have Xe:=hb e (zX he);exact⟨v,q1,aC.unleaf h _ _ Xe.1 q2,aC.unleaf h _ _ Xe.2 q3,q4⟩
def ix:X Nat->Nat->Nat->V Nat
 |[],_,_=>none|a::l,k,i=>cond (Nat.beq a k) (some i) (ix l k (i+1))
def nm:X Nat->Nat->Nat->Nat
 |[],nx,j=>nx+j|a::_,_,0=>a
 |_::l,nx,j+1=>nm l nx j
def GV:∀(ns:X Nat)(nx j:Nat),j<ns.length->∃h:j<ns.length,nm ns nx j=ns[j]
 |a::l,nx,0,h=>⟨h,rfl⟩|a::l,nx,j+1,h=>by obtain⟨h',e⟩:=GV l nx j (by simpa using h);exact⟨h,by simp[nm,e]⟩
def KQ:∀(ns:X Nat)(nx j:Nat),ns.length<=j->nm ns nx j=nx+(j-ns.length)
 |[],nx,j,_=>by simp[nm]
 |a::l,nx,0,h=>by simp at h
 |a::l,nx,j+1,h=>by simp only[nm,KQ l nx j (by simpa using h)];simp
def z7y{ns:X Nat}{nx:Nat}(oS:ns.Nodup)(aE:∀k∈ns,k<nx){i j:Nat}(h:nm ns nx i=nm ns nx j):i=j:=by by_cases hi:i<ns.length;obtain⟨_,e1⟩:=GV ns nx i hi;by_cases hj:j<ns.length;obtain⟨_,e2⟩:=GV ns nx j hj;rw[e1,e2]at h;exact(List.getElem_inj oS).1 h;rw[e1,KQ ns nx j qq0]at h;have:=aE _ (List.getElem_mem hi);omega;rw[KQ ns nx i qq0]at h;by_cases hj:j<ns.length;obtain⟨_,e2⟩:=GV ns nx j hj;rw[e2]at h;have:=aE _ (List.getElem_mem hj);omega;rw[KQ ns nx j qq0]at h;omega
def Q7:X Nat->Nat->PE
 |[],_=>false|a::l,k=>cond (Nat.beq a k) true (Q7 l k)
def jn:∀(l:X Nat)(k:Nat),Q7 l k=true↔k∈l
 |[],k=>by simp[Q7]
 |a::l,k=>by simp only[Q7,beq_eq,zI];by_cases e:a=k;simp[e];have:¬ k=a:=fun h=>e h.symm;simp[e,this,jn l k]
def y7(ns:X Nat)(nx:Nat):X (Nat×B)->X (Nat×B)
 |[]=>[]|(j,b)::h=>(nm ns nx j,rB (nm ns nx) b)::y7 ns nx h
def GZ(ns:X Nat):X (Nat×B)->X (Nat×B)
 |[]=>[]|(k,b)::h=>cond (Q7 ns k) (GZ ns h) ((k,b)::GZ ns h)
def oq{ns:X Nat}{nx:Nat}(hi:∀i j,nm ns nx i=nm ns nx j->i=j):∀(h:X (Nat×B))(j:Nat),gt (y7 ns nx h) (nm ns nx j)=(gt h j).map (rB (nm ns nx))
 |[],j=>by simp[y7,gt]
 |(i,b)::h,j=>by simp only[y7,aP,oq hi h j];by_cases e:i=j;simp[e];have:¬ nm ns nx i=nm ns nx j:=fun h=>e (hi _ _ h);simp[e,this]
def qjo{ns:X Nat}{nx:Nat}:∀(h:X (Nat×B))(k:Nat),(∀j,nm ns nx j≠k)->gt (y7 ns nx h) k=none
 |[],k,_=>by simp[y7,gt]
 |(i,b)::h,k,hk=>by simp[y7,aP,hk i,qjo h k hk]
def Pi(ns:X Nat):∀(h:X (Nat×B))(k:Nat),gt (GZ ns h) k=if k∈ns then none else gt h k
 |[],k=>by simp[GZ,gt]
 |(j,b)::h,k=>by
  have ih:=Pi ns h k;simp only[GZ];cases hj:Q7 ns j with
  |true=>have tS:=(jn ns j).1 hj;simp only[zC,ih,aP];by_cases e:j=k;subst e;simp[tS];simp[e]|false=>
   have tS:¬ j∈ns:=fun h=>by rw[(jn ns j).2 h]at hj;cases hj
   simp only[zD,aP,ih];by_cases e:j=k;subst e;simp[tS];simp[e]
def X_(a b:X (Nat×B))(k:Nat):gt (a++b) k=match gt a k with |some c=>some c |none=>gt b k:=by induction a with|nil=>simp[gt]|cons p a ih=>obtain⟨j,c⟩:=p;simp only[List.cons_append,aP,ih];by_cases e:j=k<;>simp[e]
def Xu(ns:X Nat)(Y o8:Sg):Sg:=⟨y7 ns Y.nx o8.h++GZ ns Y.h,Y.nx+(o8.nx-ns.length)⟩
mutual
def Nt:(u:U)->rU id u=u
 |.ptr k _ _=>by simp[rU]
 |.sl k _ _ _=>by simp[rU]
 |.vl k _ _ _=>by simp[rU]
 |.map k=>by simp[rU]
 |.iptr l=>by simp[rU,M9 l]
 |.isl t l=>by simp[rU,XL l]
 |.fn f a b=>by simp[rU,M9 a,M9 b]
 |.agg l=>by simp[rU,M9 l]
 |.tup l=>by simp[rU,M9 l]
 |.junk=>rfl|.bool _=>rfl
 |.int _ _=>rfl|.str _=>rfl
 |.nilp=>rfl|.nils=>rfl
 |.nilm=>rfl|.nilf=>rfl
 |.nili=>rfl
def M9:(l:X U)->fB id l=l
 |[]=>rfl|u::l=>by simp[fB,Nt u,M9 l]
def XL:(l:X (X U))->tK id l=l
 |[]=>rfl|c::l=>by simp[tK,M9 c,XL l]
end
def nO.keep{x y:Cx}{k:Nat}{b:B}(h:nO x k b)(hm:Ke x.Y.nx x y)(jI:y.I k=x.I k)(hl:∀i c,x.I k=some i->lk x.s.h i=some c->lk y.s.h i=some c):nO y k b:=by
 cases b with
 |row l e=>obtain⟨k1,i,l',e1,e2,e3⟩:=h;exact⟨k1,i,l',by rw[jI,e1],hl _ _ e1 e2,hm.E e3.bel e3⟩
 |vec l e sz st=>obtain⟨k1,k2,h3⟩:=h;refine⟨k1,k2,?_⟩;rcases h3 with⟨h3,h4⟩|⟨i,l',e1,e2,e3⟩;exact .inl ⟨h3,by rw[jI,h4]⟩;exact .inr ⟨i,l',by rw[jI,e1],hl _ _ e1 e2,hm.E e3.bel e3⟩
 |map es cl=>obtain⟨i,es',e1,e2,e3⟩:=h;refine⟨i,es',by rw[jI,e1],hl _ _ e1 e2,e3.1,fun j e he=>?_⟩;obtain⟨v,q1,q2,q3,q4⟩:=e3.2 j e he;exact⟨v,q1,hm _ _ (aC.bel _ _ q2) q2,hm _ _ (aC.bel _ _ q3) q3,q4⟩
def nO.row_at{x:Cx}{k i:Nat}{b:B}(h:nO x k b)(hi:x.I k=some i):∃c,lk x.s.h i=some c:=by
 cases b with
 |row l e=>obtain⟨_,i',l',e1,e2,_⟩:=h;rw[hi]at e1;cases e1;exact⟨_,e2⟩
 |vec l e sz st=>obtain⟨_,_,h3⟩:=h;rcases h3 with⟨_,h4⟩|⟨i',l',e1,e2,_⟩;rw[hi]at h4;cases h4;rw[hi]at e1;cases e1;exact⟨_,e2⟩
 |map es cl=>obtain⟨i',es',e1,e2,_⟩:=h;rw[hi]at e1;cases e1;exact⟨_,e2⟩
def aW.frame{P:DC}{f:FuncId}{args:X U}{h0:X (Nat×B)}{R:U->Sg->Prop}(ns:X Nat)(h:aW P f args ⟨h0,ns.length⟩ R)(Y:Sg)(oS:ns.Nodup)(aE:∀k∈ns,k<Y.nx)(ha:aG ns.length args)
  (lR:∀k b,gt h0 k=some b->k<ns.length/\BelB ns.length b/\gt Y.h (nm ns Y.nx k)=some (rB (nm ns Y.nx) b)):
  aW P f (fB (nm ns Y.nx) args) Y (fun u Y'=>∃u0 o8,R u0 o8/\ns.length<=o8.nx/\u=rU (nm ns Y.nx) u0/\Y'=Xu ns Y o8):=fun F x vs m w cargs hx hh fG he dV cC=>by
 subst hx;have Wg:∀i j,nm ns x.Y.nx i=nm ns x.Y.nx j->i=j:=fun i j h=>z7y oS aE h;have xB:∀k,k∈ns->∃j,j<ns.length/\nm ns x.Y.nx j=k:=fun k hk=>by obtain⟨j,hj,e⟩:=List.getElem_of_mem hk;exact⟨j,hj,by rw[(GV ns x.Y.nx j hj).2,e]⟩
 have Vt:∀j,j<ns.length->nm ns x.Y.nx j<x.Y.nx:=fun j hj=>by rw[(GV ns x.Y.nx j hj).2];exact aE _ (List.getElem_mem hj)
 let x0:Cx:=⟨fun k=>if k<ns.length then x.I (nm ns x.Y.nx k)else none,⟨h0,ns.length⟩,x.s⟩
 have E5:∀k,k<ns.length->x0.I k=x.I (nm ns x.Y.nx k):=fun k hk=>by simp[x0,hk]
 have Bo:∀k st (p:V Nat->Prop),k<ns.length->Ref x (nm ns x.Y.nx k) st p->Ref x0 k st p:=fun k st p hk ⟨_,h2⟩=>⟨hk,fun b hb=>by obtain⟨_,_,hg⟩:=lR k b hb;have:=h2 _ hg;rw[R5]at this;rw[E5 k hk];exact this⟩;have Kg:RN ns.length (nm ns x.Y.nx) x x0:={
  ptr:=fun k st off v hk hr=>by simp only[aC]at*;exact⟨hr.1,Bo k st _ hk hr.2⟩
  sl:=fun k off m c v hk hr=>by simp only[aC]at*;exact⟨hr.1,Bo k 0 _ hk hr.2⟩
  map:=fun k v hk hr=>by simp only[aC]at*;exact⟨hr.1,Bo k 0 _ hk hr.2⟩
  vl:=fun k st off m v hk hr=>by
   simp only[aC]at*;obtain⟨g1,g2,g3⟩:=hr;refine⟨g1,hk,fun b hb=>?_⟩;obtain⟨_,_,hg⟩:=lR k b hb;obtain⟨g4,g5⟩:=g3 _ hg;rw[R5]at g4 g5;refine⟨g4,fun e=>?_⟩;obtain⟨l,e',sz,e7,e8⟩:=g5 e;rw[E5 k hk];cases b with
   |vec l0 e0 Nn st0=>simp only[rB,B.vec.injEq]at e7;obtain⟨_,rfl,rfl,rfl⟩:=e7;exact⟨l0,_,_,rfl,e8⟩
   |row _ _=>simp[rB]at e7|map _ _=>simp[rB]at e7
  imm:=fun i row e hl=>hl }
 have hh0:iZ x0:=⟨fun k b hb=>by obtain⟨h1,h2,h3⟩:=lR k b hb;exact⟨h1,nO.unleaf Kg h2 (E5 k h1) (fun i c _ hl=>hl) (hh.ok _ _ h3).2⟩,
  fun k k' b b' i hb cK hi i5=>by obtain⟨h1,h2,h3⟩:=lR k b hb;obtain⟨tV,FY,PK⟩:=lR k' b' cK;rw[E5 k h1]at hi;rw[E5 k' tV]at i5;exact Wg _ _ (hh.inj _ _ _ _ i h3 PK hi i5),
  hh.bd⟩
 let F0:Nat->mI->Prop:=fun i b=>lk x.s.h i=some b/\∀k c,gt h0 k=some c->x.I (nm ns x.Y.nx k)≠some i
 have hfr0:Fr F0 x0:=fun i b O=>⟨O.1,fun k c hc=>by rw[E5 k (lR k c hc).1];exact O.2 k c hc⟩;refine(h F0 x0 vs m w cargs rfl hh0 hfr0 (bA.unleaf Kg ha he) dV cC).mono ?_;rintro e w₁ ⟨y0,aL,u0,v,cv,rfl,hR,aS,iP,Wl,uM,yW,iH,iR⟩;have nB:ns.length<=y0.Y.nx:=iR;have Wi:∀k,k<x.Y.nx->¬ k∈ns->∀j,nm ns x.Y.nx j≠k:=fun k hk hn j e=>by by_cases hj:j<ns.length;obtain⟨_,e1⟩:=GV ns x.Y.nx j hj;rw[e1]at e;exact hn (e ▸ List.getElem_mem hj);rw[KQ ns x.Y.nx j qq0]at e;omega
 let inv:Nat->V Nat:=fun k=>if k<x.Y.nx then ix ns k 0 else some (ns.length+(k-x.Y.nx))
 let y:Cx:=⟨fun k=>if k∈ns\/x.Y.nx<=k then(match inv k with |some j=>y0.I j |none=>none)else x.I k,Xu ns x.Y y0.Y,y0.s⟩
 have hixg:∀(l:X Nat)(j i:Nat),l.Nodup->(hj:j<l.length)->ix l l[j] i=some (i+j):=by
  intro l;induction l with
  |nil=>intro j i _ hj;simp at hj|cons a l ih=>
   intro j i oS hj;cases j with
   |zero=>simp[ix,beq_eq]|succ j=>have cR:¬ a=l[j]'(by simpa using hj):=fun h=>(List.nodup_cons.1 oS).1 (h ▸ List.getElem_mem _);simp only[List.getElem_cons_succ,ix,beq_eq,cR,yB,zD];rw[ih j (i+1) (List.nodup_cons.1 oS).2 (by simpa using hj)];congr 1;omega
 have hinv:∀j,inv (nm ns x.Y.nx j)=some j:=fun j=>by
  by_cases hj:j<ns.length;have h1:=Vt j hj;obtain⟨_,e1⟩:=GV ns x.Y.nx j hj;simp only[inv,h1,if_true];rw[e1,hixg ns j 0 oS hj];simp;have e1:=KQ ns x.Y.nx j qq0;have h1:¬ nm ns x.Y.nx j<x.Y.nx:=by omega
  simp only[inv,h1,if_false,zA];omega
 have E4:∀j,y.I (nm ns x.Y.nx j)=y0.I j:=fun j=>by
  have h1:nm ns x.Y.nx j∈ns\/x.Y.nx<=nm ns x.Y.nx j:=by by_cases hj:j<ns.length;obtain⟨_,e1⟩:=GV ns x.Y.nx j hj;exact .inl (by rw[e1];exact List.getElem_mem hj);rw[KQ ns x.Y.nx j qq0];exact .inr qq0
  simp only[y,h1,if_true,hinv]
 have B3:∀k,k<x.Y.nx->¬ k∈ns->y.I k=x.I k:=fun k hk hn=>by
  have h1:¬ (k∈ns\/x.Y.nx<=k):=by rintro(h |h);exact hn h;omega
  simp only[y,h1,if_false]
 have OW:∀j,gt y.Y.h (nm ns x.Y.nx j)=(gt y0.Y.h j).map (rB (nm ns x.Y.nx)):=fun j=>by
  show gt (y7 ns x.Y.nx y0.Y.h++GZ ns x.Y.h) _=_;rw[X_,oq Wg];cases hg:gt y0.Y.h j with
  |some b=>rfl|none=>simp only[Option.map_none];rw[Pi];split;rfl;rename_i hn;rcases Ku:gt x.Y.h (nm ns x.Y.nx j)with _|b;rfl;have:=(hh.ok _ _ Ku).1;exact absurd rfl (Wi _ this hn j)
 have hgn:∀k,k<x.Y.nx->¬ k∈ns->gt y.Y.h k=gt x.Y.h k:=fun k hk hn=>by show gt (y7 ns x.Y.nx y0.Y.h++GZ ns x.Y.h) _=_;rw[X_,qjo _ _ (Wi k hk hn),Pi,if_neg hn]
 have pG:∀k b,gt y.Y.h k=some b->(∃j b0,k=nm ns x.Y.nx j/\gt y0.Y.h j=some b0/\b=rB (nm ns x.Y.nx) b0)\/(k<x.Y.nx/\¬ k∈ns/\gt x.Y.h k=some b):=fun k b hb=>by
  by_cases hk:∃j,nm ns x.Y.nx j=k;obtain⟨j,rfl⟩:=hk;rw[OW]at hb;rcases hg:gt y0.Y.h j with _|b0;rw[hg]at hb;cases hb;rw[hg]at hb;simp at hb;exact .inl ⟨j,b0,rfl,hg,hb.symm⟩;have rN:∀j,nm ns x.Y.nx j≠k:=fun j e=>hk ⟨j,e⟩
  have xD:k<x.Y.nx:=by rcases Nat.lt_or_ge k x.Y.nx with h |h;exact h;exact absurd (by rw[KQ ns x.Y.nx _ qq0];omega) (rN (ns.length+(k-x.Y.nx)))
  have hn:¬ k∈ns:=fun h=>by obtain⟨j,_,e⟩:=xB k h;exact rN j e
  rw[hgn k xD hn]at hb;exact .inr ⟨xD,hn,hb⟩
 have CH:∀k,k<x.Y.nx->k∈ns\/¬ k∈ns:=fun k _=>Classical.em _;have I2:y.Y.nx=x.Y.nx+(y0.Y.nx-ns.length):=rfl;have IF:∀j,j<y0.Y.nx->nm ns x.Y.nx j<y.Y.nx:=fun j hj=>by rw[I2];by_cases tS:j<ns.length;have:=Vt j tS;omega;rw[KQ ns x.Y.nx j qq0];omega
 have I7:∀k st (p:V Nat->Prop),Ref y0 k st p->Ref y (nm ns x.Y.nx k) st p:=fun k st p ⟨h1,h2⟩=>⟨IF k h1,fun b hb=>by rw[OW]at hb;rcases hg:gt y0.Y.h k with _|b0;rw[hg]at hb;cases hb;rw[hg]at hb;simp only[zM,zA]at hb;subst hb;rw[R5,E4];exact h2 _ hg⟩;have tR:W0 y0.Y.nx (nm ns x.Y.nx) y0 y:={
  ptr:=fun k st off v _ hr=>by simp only[aC]at*;exact⟨hr.1,I7 k st _ hr.2⟩
  sl:=fun k off m c v _ hr=>by simp only[aC]at*;exact⟨hr.1,I7 k 0 _ hr.2⟩
  map:=fun k v _ hr=>by simp only[aC]at*;exact⟨hr.1,I7 k 0 _ hr.2⟩
  vl:=fun k st off m v _ hr=>by simp only[aC]at*;obtain⟨g1,g2,g3⟩:=hr;refine⟨g1,IF k g2,fun b hb=>?_⟩;rw[OW]at hb;rcases hg:gt y0.Y.h k with _|b0;rw[hg]at hb;cases hb;rw[hg]at hb;simp only[zM,zA]at hb;subst hb;rw[R5,E4];obtain⟨g4,g5⟩:=g3 _ hg;refine⟨g4,fun e=>?_⟩;obtain⟨l,e',sz,rfl,e8⟩:=g5 e;exact⟨_,e',sz,rfl,e8⟩
  imm:=fun i row e hl=>hl }
 have himm:∀i row e,lk x.s.h i=some (.inl (row,e,1))->lk y.s.h i=some (.inl (row,e,1)):=fun i row e hl=>(uM i _ ⟨hl,fun k c hc jI=>(hh.ok _ _ (lR k c hc).2.2).2.not1 jI hl⟩).1;have I8:∀k st (p:V Nat->Prop),¬ k∈ns->Ref x k st p->Ref y k st p:=fun k st p hn ⟨h1,h2⟩=>⟨by rw[I2];omega,fun b hb=>by rw[hgn k h1 hn]at hb;rw[B3 k h1 hn];exact h2 b hb⟩;have hkeL:W0 x.Y.nx id x y:={
  ptr:=fun k st off v hk hr=>by by_cases hn:k∈ns;obtain⟨j,hj,rfl⟩:=xB k hn;exact tR.ptr j st off v qq0 (iH (.ptr j st off) v (by simpa[aT,x0]using hj) (Kg.ptr j st off v hj hr));simp only[aC]at*;exact⟨hr.1,I8 k st _ hn hr.2⟩
  sl:=fun k off m c v hk hr=>by by_cases hn:k∈ns;obtain⟨j,hj,rfl⟩:=xB k hn;exact tR.sl j off m c v qq0 (iH (.sl j off m c) v (by simpa[aT,x0]using hj) (Kg.sl j off m c v hj hr));simp only[aC]at*;exact⟨hr.1,I8 k 0 _ hn hr.2⟩
  map:=fun k v hk hr=>by by_cases hn:k∈ns;obtain⟨j,hj,rfl⟩:=xB k hn;exact tR.map j v qq0 (iH (.map j) v (by simpa[aT,x0]using hj) (Kg.map j v hj hr));simp only[aC]at*;exact⟨hr.1,I8 k 0 _ hn hr.2⟩
  vl:=fun k st off m v hk hr=>by by_cases hn:k∈ns;obtain⟨j,hj,rfl⟩:=xB k hn;exact tR.vl j st off m v qq0 (iH (.vl j st off m) v (by simpa[aT,x0]using hj) (Kg.vl j st off m v hj hr));simp only[aC,id]at*;obtain⟨g1,g2,g3⟩:=hr;refine⟨g1,by rw[I2];omega,fun b hb=>?_⟩;rw[hgn k g2 hn]at hb;rw[B3 k g2 hn];exact g3 b hb
  imm:=himm }
 have jX:∀u,rU id u=u/\True:=fun u=>⟨(Nt u),trivial⟩;have TT:Ke x.Y.nx x y:=fun u v hb hr=>by
  have:=aC.leaf hkeL u v hb hr
  rwa [(jX u).1]at this
 have TN:∀k b i c,gt x.Y.h k=some b->¬ k∈ns->x.I k=some i->lk x.s.h i=some c->F0 i c:=fun k b i c hb hn hi hl=>⟨hl,fun j d hd jI=>by
  obtain⟨h1,_,h3⟩:=lR j d hd;have:=hh.inj _ _ _ _ i h3 hb jI hi;have h5:nm ns x.Y.nx j∈ns:=by rw[(GV ns x.Y.nx j h1).2];exact List.getElem_mem h1
  exact hn (this ▸ h5)⟩
 refine⟨y,aL,rU (nm ns x.Y.nx) u0,v,cv,rfl,⟨u0,y0.Y,hR,nB,rfl,rfl⟩,aS,iP,⟨fun k b hb=>?_,fun k k' b b' i hb cK hi i5=>?_,Wl.bd⟩,fun i b O=>?_,aC.leaf tR u0 v (aC.bel u0 v yW) yW,TT,by rw[I2];omega⟩;rcases pG k b hb with⟨j,b0,rfl,hg,rfl⟩|⟨h1,h2,h3⟩;obtain⟨g1,g2⟩:=Wl.ok j b0 hg;exact⟨IF j g1,nO.leaf tR (g2.belB) (E4 j) (fun i c _ hl=>hl) g2⟩;exact⟨by rw[I2];omega,(hh.ok k b h3).2.keep TT (B3 k h1 h2) fun i c hi hl=>(uM i c (TN k b i c h3 h2 hi hl)).1⟩;have mixed:∀k k' b b0 (j:Nat),k=nm ns x.Y.nx j->gt y0.Y.h j=some b0->y.I k=some i->k'<x.Y.nx->¬ k'∈ns->gt x.Y.h k'=some b->y.I k'=some i->False:=fun k k' b b0 j e hg hi h1 h2 h3 i5=>by subst e;rw[E4]at hi;rw[B3 k' h1 h2]at i5;obtain⟨c,hc⟩:=(hh.ok k' b h3).2.row_at i5;exact(uM i c (TN k' b i c h3 h2 i5 hc)).2 j b0 hg hi
 rcases pG k b hb with⟨j,b0,e1,hg,_⟩|⟨h1,h2,h3⟩;rcases pG k' b' cK with⟨j',b0',Ea,sN,_⟩|⟨tV,FY,PK⟩;subst e1 Ea;rw[E4]at hi i5;rw[Wl.inj j j' b0 b0' i hg sN hi i5];exact(mixed k k' b' b0 j e1 hg hi tV FY PK i5).elim;rcases pG k' b' cK with⟨j',b0',Ea,sN,_⟩|⟨tV,FY,PK⟩;exact(mixed k' k b b0' j' Ea sN i5 h1 h2 h3 hi).elim;rw[B3 k h1 h2]at hi;rw[B3 k' tV FY]at i5;exact hh.inj k k' b b' i h3 PK hi i5;obtain⟨h1,h2⟩:=fG i b O;have hF0:F0 i b:=⟨h1,fun k c hc=>h2 _ _ (lR k c hc).2.2⟩;refine⟨(uM i b hF0).1,fun k c hc=>?_⟩;rcases pG k c hc with⟨j,b0,rfl,hg,_⟩|⟨g1,g2,g3⟩;rw[E4];exact(uM i b hF0).2 j b0 hg;rw[B3 k g1 g2];exact h2 k c g3
def a8{v12 β:Type}(o:V v12)(k:v12->V β):V β:=match o with
 |some a=>k a|none=>none
variable{v12:Type}
variable{β:Type}
def aI{o:V v12}{k:v12->V β}{r:β}(h:a8 o k=some r):∃a,o=some a/\k a=some r:=by rcases o with _|a;cases h;exact⟨a,rfl,h⟩
def bO{v12 β γ:Type}{o:V v12}{k:v12->V β}{l:v12->β->V γ}{r:γ}(h:a8 o (fun a=>a8 (k a) (l a))=some r): ∃a,o=some a/\∃b,k a=some b/\l a b=some r:=by obtain⟨a,h1,h⟩:=aI h;obtain⟨b,h2,h⟩:=aI h;exact⟨a,h1,b,h2,h⟩
def oM{v12 β γ δ:Type}{o:V v12}{k:v12->V β}{l:v12->β->V γ}{p:v12->β->γ->V δ}{r:δ}(h:a8 o (fun a=>a8 (k a) (fun b=>a8 (l a b) (p a b)))=some r): ∃a,o=some a/\∃b,k a=some b/\∃c,l a b=some c/\p a b c=some r:=by obtain⟨a,h1,h⟩:=aI h;obtain⟨b,h2,c,h3,h⟩:=bO h;exact⟨a,h1,b,h2,c,h3,h⟩
def qZ{v12 β γ δ ε:Type}{o:V v12}{k:v12->V β}{l:v12->β->V γ}{p:v12->β->γ->V δ}{q:v12->β->γ->δ->V ε}{r:ε}(h:a8 o (fun a=>a8 (k a) (fun b=>a8 (l a b) (fun c=>a8 (p a b c) (q a b c))))=some r): ∃a,o=some a/\∃b,k a=some b/\∃c,l a b=some c/\∃d,p a b c=some d/\q a b c d=some r:=by obtain⟨a,h1,h⟩:=aI h;obtain⟨b,h2,c,h3,d,h4,h⟩:=oM h;exact⟨a,h1,b,h2,c,h3,d,h4,h⟩
@[simp] def aM{v12 β:Type}(a:v12)(k:v12->V β):a8 (some a) k=k a:=rfl
@[simp] def cd{v12 β:Type}(k:v12->V β):a8 none k=none:=rfl
def Ee{c:PE}{a b:V β}{r:V β}(h:c=true)(O:cond c a b=r):a=r:=by subst h;exact O
def Eg{c:PE}{a b:V β}{r:V β}(h:c=false)(O:cond c a b=r):b=r:=by subst h;exact O
def aF{β:Type}(p:Prop)[Decidable p](k:V β):V β:=if p then k else none
def c6{p:Prop}[Decidable p]{k:V β}{r:β}(h:aF p k=some r):p/\k=some r:=by unfold aF at h;split at h;rename_i hp;exact⟨hp,h⟩;cases h
def aB{v12:Type}(l:X v12)(i:Int):V v12:=if 0<=i/\i<(l.length:Int)then l[i.toNat]? else none
variable{l:X v12}
variable{i:Int}
variable{x:v12}
def qzx(c:v12->X U)(h:aB l i=some x):0<=i/\i<(l.length:Int)/\(l.map c)[i.toNat]? = some (c x):=by unfold aB at h;split at h;rename_i hp;exact⟨hp.1,hp.2,by simp[h]⟩;cases h
def NH(h:aB l i=some x):0<=i/\i<(l.length:Int)/\l[i.toNat]? = some x:=by unfold aB at h;split at h;rename_i hp;exact⟨hp.1,hp.2,h⟩;cases h
def cP(i:Nat):aB l (i:Int)=l[i]?:=by unfold aB;by_cases h:i<l.length;simp[h];simp[h]
def cI(k:IntKind)(n:Int):X U:=[.int k n]
def cS(s:X Yv):X U:=[.str s]
def cL{v12:Type}(c:v12->X U)(l:X v12):X U:=[.isl false (l.map c)]
def xg(n:Nat)(k:IntKind)(x:Int):aG n (cI k x):=by simp[cI,aG,aT]
def z71(n:Nat)(x:X Yv):aG n (cS x):=by simp[cS,aG,aT]
variable{c:v12->X U}
def Ey(n:Nat)(h:∀x,aG n (c x))(x:X v12):aG n (cL c x):=by simp[cL,aG,aT,sJ c h x]
variable{sz:Nat}
def qyj(h:∀x,(c x).length=sz)(l:X v12):((l.map c).all fun r=>Nat.beq r.length sz)=true:=by simp[h]
def DQ(h:∀x,(c x).length=sz)(l:X v12):((l.map c).flatten).length=l.length*sz:=by induction l with|nil=>simp|cons x l ih=>simp only[zQ,List.flatten_cons,zU,ih,h,zO,Nat.succ_mul];omega
def qv0(c:v12->X U)(l k:X v12):((l++k).map c).flatten=(l.map c).flatten++(k.map c).flatten:=qq4
def zah(h:∀x,(c x).length=sz)(l:X v12):kY (l.map c).flatten (0*sz) (l.length*sz)=some (l.map c).flatten:=by have:=DQ h l;simp only[kY,Nat.zero_mul,Nat.zero_add,this,zF,if_true,List.drop_zero];rw[<-this,List.take_length]
def jy(h:∀x,(c x).length=sz)(l:X v12)(i:Nat):((l.map c).flatten).drop (i*sz)=((l.drop i).map c).flatten:=by induction i generalizing l with|zero=>simp|succ i ih=>rcases l with _|⟨x,l⟩;simp;simp only[zQ,List.flatten_cons,List.drop_succ_cons,Nat.succ_mul];rw[Nat.add_comm,<-List.drop_drop,List.drop_append_of_le_length (by rw[h];exact zF _)];rw[show(c x).drop sz=[]from List.drop_eq_nil_of_le (by rw[h];exact zF _),List.nil_append,ih]
def qqt(h:∀x,(c x).length=sz)(l:X v12)(i:Nat):((l.map c).flatten).take (i*sz)=((l.take i).map c).flatten:=by induction i generalizing l with|zero=>simp|succ i ih=>rcases l with _|⟨x,l⟩;simp;simp only[zQ,List.flatten_cons,List.take_succ_cons,Nat.succ_mul];rw[Nat.add_comm,List.take_append,h,zW (by rw[h];omega),Nat.add_sub_cancel_left,ih]
def qkz(h:∀x,(c x).length=sz)(l:X v12):bN sz l.length (l.map c).flatten=l.map c:=by induction l with|nil=>rfl|cons x l ih=>simp only[zQ,List.flatten_cons,zO,bN];rw[List.take_append_of_le_length (by rw[h];exact zF _),zW (by rw[h];exact zF _),List.drop_append_of_le_length (by rw[h];exact zF _),List.drop_eq_nil_of_le (by rw[h];exact zF _),List.nil_append,ih]
def z3f(h:∀x,(c x).length=sz)(hx:aB l i=some x):kY (l.map c).flatten (0*sz+i.toNat*sz) sz=some (c x):=by
 obtain⟨h1,h2,h3⟩:=NH hx;have aE:i.toNat<l.length:=by omega
 have hl:=DQ h l;have pU:i.toNat*sz+sz<=l.length*sz:=by rw[<-Nat.succ_mul];exact Nat.mul_le_mul_right _ qq0
 simp only[kY,Nat.zero_mul,Nat.zero_add,hl,pU,if_true,jy h,zA];have hd:l.drop i.toNat=x::l.drop (i.toNat+1):=by rw[List.drop_eq_getElem_cons aE];rw[List.getElem?_eq_getElem aE]at h3;rw[Option.some.inj h3]
 rw[hd];simp only[zQ,List.flatten_cons];rw[List.take_append_of_le_length (by rw[h];exact zF _),zW (by rw[h];exact zF _)]
def W9(h:∀x,(c x).length=sz)(hz:0<sz)(hx:aB l i=some x):((l.map c).flatten=[])=False:=by obtain⟨h1,h2,h3⟩:=NH hx;have hl:=DQ h l;simp only[eq_iff_iff,iff_false];intro e;rw[e]at hl;have:0<l.length*sz:=Nat.mul_pos qq0 hz;simp at hl;omega
def zav(h:∀x,(c x).length=1){u:v12->U}(hu:∀x,c x=[u x])(hx:aB l i=some x):nth (l.map c).flatten (0*1+i.toNat*1)=some (u x):=by have:=z3f h hx;obtain⟨h1,h2⟩:=S4 this;rw[hu]at h2;rw[kK];have h3:=congrArg (fun l:X U=>l[0]?) h2;simp only[List.getElem?_take,List.getElem?_drop]at h3;simpa using h3.symm
def w7{v12:Type}(l:X v12)(lo hi:Int):V (X v12):=if 0<=lo/\lo<=hi/\hi<=(l.length:Int)then some ((l.take hi.toNat).drop lo.toNat)else none
def qup(c:v12->X U)(l:X v12)(a b:Nat):tM (l.map c) a b=((l.take b).drop a).map c:=by simp[tM,List.map_drop,List.map_take]
variable{k:X v12}
variable{lo:Int}
variable{hi:Int}
def qqh(h:w7 l lo hi=some k):0<=lo/\lo<=hi/\hi<=(l.length:Int)/\(l.take hi.toNat).drop lo.toNat=k:=by unfold w7 at h;split at h;rename_i hp;exact⟨hp.1,hp.2.1,hp.2.2,Option.some.inj h⟩;cases h
def ij{n m:Nat}{k:IntKind}(h1:0<=hi)(h2:hi<=(n:Int)):mV m n none (some (.int k hi))=some (0,hi.toNat,n):=by have:sL hi (n+1)=true:=KS ⟨by omega,by omega⟩;simp[mV,wE,this]
def ii{n:Nat}{k:IntKind}(h1:0<=lo)(h2:lo<=(n:Int)):mV n n (some (.int k lo)) none=some (lo.toNat,n,n):=by have:sL lo (n+1)=true:=KS ⟨by omega,by omega⟩;simp[mV,wE,this]
def AG(n0:Nat)(E:X U->Sg->Prop)(Q:Exit->X U->Sg->Prop):Exit->X U->Sg->Prop
 |.normal,tm,Y=>∃tm' Y',E tm' Y'/\n0<=Y'.nx/\Gh n0 tm Y tm' Y'|e,tm,Y=>Q e tm Y
variable{C:PG}
variable{n0:Nat}
variable{Q:Exit->X U->Sg->Prop}
variable{tm:X U}
variable{Y:Sg}
def tF{c:Code}(E:X U->Sg->Prop)(out:∀tm Y,E tm Y->Q .normal tm Y)(h:WPU C n0 c tm Y (AG n0 E Q)):WPU C n0 c tm Y Q:=by
 refine WPU.after h ?_;intro e dv Y1 hn h;cases e with
 |normal=>obtain⟨eV,aU,h1,h2,h3⟩:=h;exact⟨eV,aU,h2,h3,out _ _ h1⟩
 |_=>exact⟨dv,Y1,hn,Gh.refl _ _ _,h⟩
def WPU.loopK{c:Code}{id:Nat}(v09:Nat->X U->Sg->Prop)(E:X U->Sg->Prop)(n:Nat)(h₀:v09 n tm Y)
  (out:∀tm Y,E tm Y->Q .normal tm Y)
  (round:∀n tm Y,v09 n tm Y->WPU C n0 c tm Y (yF (fun tm' Y'=>∃n' eV aU,n'<n/\v09 n' eV aU/\n0<=aU.nx/\Gh n0 tm' Y' eV aU) (uD id (AG n0 E Q)))):WPU C n0 (.block id (.loop c)) tm Y Q:=by refine tF E out ?_;apply cE;exact WPU.loopG v09 n h₀ round
variable{f:FuncId}
variable{args:X U}
variable{args':X U}
variable{Y':Sg}
def aW.ghost{P:DC}{R:U->Sg->Prop}(hg:Gh Y.nx args Y args' Y')(hn:Y.nx<=Y'.nx)(h:aW P f args' Y' R):aW P f args Y R:=fun F x vs m w cargs hx hh fG he dV cC=>by
 obtain⟨y,g1,g2,g3,g4,g5,g6⟩:=hg F x vs hx hh fG he;have aS:=g1 m w dV;refine(h F y vs m w cargs g2 g3 g4 g5 aS.fits (cC.ext (aN.refl _ _) aS.nx)).mono ?_;rintro e w₁ ⟨z,aL,u,v,cv,h1,h2,h3,h4,h5,h6,h7,h8,h9⟩;refine⟨z,aL,u,v,cv,h1,h2,aS.trans h3,h4,h5,h6,h7,?_,?_⟩;have g6':Ke x.Y.nx x y:=by rw[hx];exact g6
 exact g6'.trans (h8.le (by rw[hx,g2];exact hn));rw[hx];exact Nat.le_trans hn (by rw[<-g2];exact h9)
variable{tm':X U}
def WPU.eqv{c:Code}(ht:tm=tm')(hs:Y=Y')(h:WPU C n0 c tm' Y' Q):WPU C n0 c tm Y Q:=by subst ht;subst hs;exact h
def Gh.eqv(ht:tm=tm')(hs:Y=Y'):Gh n0 tm Y tm' Y':=by subst ht;subst hs;exact Gh.refl _ _ _
mutual
inductive Wk:U->U->Prop
 |refl (u:U):Wk u u
 |nil (t:Bool):Wk .nils (.isl t [])
 |full (l:List (List U)):Wk (.isl true l) (.isl false l)
 |agg {l l':List U} (h:oU l l'):Wk (.agg l) (.agg l')
 |tup {l l':List U} (h:oU l l'):Wk (.tup l) (.tup l')
inductive oU:List U->List U->Prop
 |nil:oU [] []
 |cons {u u':U} {l l':List U} (h:Wk u u') (h':oU l l'):oU (u::l) (u'::l')
end
def oU.refl:∀l,oU l l
 |[]=>.nil|u::l=>.cons (.refl u) (oU.refl l)
def Wk.okC{u u':U}(h:Wk u u'):Vx.okC u'=Vx.okC u:=by cases h<;>rfl
def oU.len:∀{l l':X U},oU l l'->l'.length=l.length
 |_,_,.nil=>rfl|_,_,.cons _ h=>by simp[h.len]
def oU.okL:∀{l l':X U},oU l l'->Vx.okL l'=Vx.okL l
 |_,_,.nil=>rfl|_,_,.cons h h'=>by simp[Vx.okL,h.okC,h'.okL]
mutual
def Wk.rel{x:Cx}{u u':U}{v:Value}(h:Wk u u')(hr:aC x u v):aC x u' v:=by
 cases h with
 |refl=>exact hr|nil t=>simp only[aC]at hr ⊢;exact .inl ⟨trivial,.inl hr⟩
 |full l=>simp only[aC]at hr ⊢;rcases hr with hr |⟨i,off,c,h1,h2,h3⟩;exact .inl hr;exact .inr ⟨i,off,c,h1,by simp,h3⟩
 |agg h=>simp only[aC]at hr ⊢;obtain⟨vs,h1,h2,h3,h4⟩:=hr;exact⟨vs,h1,oU.rel h h2,by rw[h.len,h3],by rw[h.okL,h4]⟩
 |tup h=>simp only[aC]at hr ⊢;obtain⟨vs,h1,h2,h3⟩:=hr;exact⟨vs,h1,oU.rel h h2,by rw[h.len,h3]⟩
def oU.rel{x:Cx}{l l':X U}{vs:X Value}(h:oU l l')(hr:c9 x l vs):c9 x l' vs:=by rcases h with _|⟨h,h'⟩;exact hr;rcases vs with _|⟨v,vs⟩;simp[c9]at hr;simp only[c9]at hr ⊢;exact⟨Wk.rel h hr.1,oU.rel h' hr.2⟩
end
def Gh.wk(h:oU tm tm'):Gh n0 tm Y tm' Y:=fun F x tv hx hr hf he=>⟨x,fun m w hf=>bT.refl hf,hx,hr,hf,⟨h.rel he.1,by rw[h.len];exact he.2⟩,Ke.refl _ _⟩
def Gh.fz{h':X (Nat×B)}(K:Nat)(b:B)(sz:Nat)(hg:gt Y.h K=some b)(hb:∀es cl,b≠.map es cl)(ht:gU K b sz tm=tm')(hh:fzH K b sz Y.h=h'):Gh n0 tm Y tm' ⟨h',Y.nx⟩:=by subst ht;subst hh;exact Gh.freeze sz hg hb
def GX(h:∀x,(c x).length=sz)(l:X v12)(K s:Nat)(e:TypeId)(st:Nat):fz K (.vec (l.map c).flatten e sz st) s (.vl K st 0 l.length)=.isl false (l.map c):=by have hl:=DQ h l;have hc:=qkz h l;simp[fz,beq_eq,hl,hc]
def qui(n:Nat):∀(a b:X U),aG n a->aG n b->aG n (a++b)
 |[],b,_,h=>h|u::a,b,h,h'=>by simp only[aG]at h;simp only[List.cons_append,aG];exact⟨h.1,qui n a b h.2 h'⟩
def NK{v12:Type}{c:v12->X U}(n:Nat)(h:∀x,aG n (c x)):∀l:X v12,aG n (l.map c).flatten
 |[]=>by simp[aG]
 |x::l=>by simp only[zQ,List.flatten_cons];exact qui n _ _ (h x) (NK n h l)
def RU.fcall{T:Tb}{aA r:X Oper}{o:Oper}{Y1:Sg}{K:X U->Sg->Prop}{u:U}(hw:c8 aA tm o=some true)(hc:jO T tm o.op=some (f,args))(hg:Gh Y.nx args Y args' Y1)(hn:Y.nx<=Y1.nx)(jJ:aW C.prog f args' Y1 (fun u' Y'=>u'=u/\Y'=Y1))
  (h:RU C T aA r (eH tm o.dst u) Y1 K):RU C T aA (o::r) tm Y K:=RU.call hw hc (aW.ghost hg hn jJ) (fun u' Y' ⟨h1,h2⟩=>by subst h1;subst h2;exact h)
def RH.fcall{P:DC}{T:Tb}{aA r:X Oper}{o:Oper}{Y1:Sg}{aZ:X RK}{K:X RK->X U->Sg->Prop}{u:U}(hw:c8 aA tm o=some true)(hc:jO T tm o.op=some (f,args))(hg:Gh Y.nx args Y args' Y1)(hn:Y.nx<=Y1.nx)(jJ:aW P f args' Y1 (fun u' Y'=>u'=u/\Y'=Y1))
  (h:RH P T aA r (eH tm o.dst u) Y1 ((3,⟨tm,o,u,true,true,Y,Y1⟩)::aZ) K):RH P T aA (o::r) tm Y aZ K:=RH.callM hw hc (aW.ghost hg hn jJ) h
def xf(c:v12->X U)(kk:IntKind)(h:w7 l 0 hi=some k):mV l.length l.length none (some (.int kk hi))=some (0,hi.toNat,l.length)/\tM (l.map c) 0 hi.toNat=k.map c:=by obtain⟨h1,h2,h3,h4⟩:=qqh h;exact⟨ij h2 h3,by rw[qup,<-h4];rfl⟩
def Ed(c:v12->X U)(kk:IntKind)(h:w7 l lo (l.length:Int)=some k):mV l.length l.length (some (.int kk lo)) none=some (lo.toNat,l.length,l.length)/\tM (l.map c) lo.toNat l.length=k.map c:=by obtain⟨h1,h2,h3,h4⟩:=qqh h;exact⟨ii h1 h2,by rw[qup,<-h4];simp⟩
def nI:X (Nat×U)->Nat->V U
 |[],_=>none|(j,u)::l,i=>cond (Nat.beq j i) (some u) (nI l i)
def Dk(l:X (Nat×U)):Nat->Nat->X U
 |0,_=>[]|n+1,i=>((nI l i).getD .junk)::Dk l n (i+1)
def fr(n:Nat)(l:X (Nat×U)):X U:=Dk l n 0
def qzl(l:X (Nat×U)):∀n i,(Dk l n i).length=n
 |0,_=>rfl|n+1,i=>by simp[Dk,qzl l n]
def qzk(l:X (Nat×U)):∀n i k,k<n->(Dk l n i)[k]? = some ((nI l (i+k)).getD .junk)
 |0,_,_,h=>by omega
 |n+1,i,0,_=>by simp[Dk]
 |n+1,i,k+1,h=>by simp only[Dk,zH];rw[qzk l n (i+1) k qq0,show i+1+k=i+(k+1) by omega]
def DM(n:Nat)(l:X (Nat×U)):(fr n l).length=n:=qzl l n 0
variable{k:Nat}
def N9(n:Nat)(l:X (Nat×U))(h:k<n):(fr n l)[k]? = some ((nI l k).getD .junk):=by have:=qzk l n 0 k h;simpa[fr]using this
variable{n:Nat}
variable{l:X (Nat×U)}
def z7i{t:X U}(hl:t.length=n)(h:∀k,k<n->t[k]? = some ((nI l k).getD .junk)):t=fr n l:=by apply List.ext_getElem?;intro k;by_cases hk:k<n;rw[h k hk,N9 n l hk];rw[List.getElem?_eq_none qq0,List.getElem?_eq_none (by rw[DM];omega)]
def bM(n:Nat)(l:X (Nat×U)):Xt->V U
 |.tmp t=>cond (Nat.blt t n) (nI l t) none|.const v=>jP v
 |.func f=>some (.fn (.func f) [] [])|.global _=>none
variable{o:Xt}
variable{u:U}
def dQ(h:bM n l o=some u):cG (fr n l) o=some u:=by
 cases o with
 |tmp t=>simp only[bM]at h;rcases hb:Nat.blt t n with _|_;rw[hb]at h;cases h;rw[hb]at h;simp only[zC]at h;simp only[cG,kK];have ht:t<n:=zY hb;rw[N9 n l ht,h];rfl
 |const v=>exact h|func f=>exact h
 |global g=>cases h
def K3(n:Nat)(l:X (Nat×U)):X Xt->V (X U)
 |[]=>some []|x::r=>match bM n l x with
  |some v=>(match K3 n l r with
   |some q=>some (v::q)|none=>none)
  |none=>none
def Gs{n:Nat}{l:X (Nat×U)}:∀{os:X Xt}{us:X U},K3 n l os=some us->oC (fr n l) os=some us
 |[],us,h=>h|o::os,us,h=>by simp only[K3]at h;rcases h1:bM n l o with _|v;simp[h1]at h;rcases h2:K3 n l os with _|q;simp[h1,h2]at h;simp only[h1,h2]at h;simp only[oC,dQ h1,Gs h2];exact h
def BZ(n:Nat)(l:X (Nat×U)):X (Nat×Xt)->V (X (Nat×U))
 |[]=>some []|(i,x)::r=>match bM n l x with
  |some v=>(match BZ n l r with
   |some q=>some ((i,v)::q)|none=>none)
  |none=>none
def xa{n:Nat}{l:X (Nat×U)}:∀{os:X (Nat×Xt)}{us:X (Nat×U)},BZ n l os=some us->yM (fr n l) os=some us
 |[],us,h=>h|(i,o)::os,us,h=>by simp only[BZ]at h;rcases h1:bM n l o with _|v;simp[h1]at h;rcases h2:BZ n l os with _|q;simp[h1,h2]at h;simp only[h1,h2]at h;simp only[yM,dQ h1,xa h2];exact h
def VX(l:X (Nat×U)):V Tmp->U->X (Nat×U)
 |none,_=>l|some d,u=>(d,u)::l
def bz(n:Nat):V Tmp->PE
 |none=>true|some d=>Nat.blt d n
def sG{d:V Tmp}(u:U)(hd:bz n d=true):eH (fr n l) d u=fr n (VX l d u):=by
 rcases d with _|d;rfl;have aE:d<n:=zY hd;refine z7i (by simp[eH,DM]) fun k hk=>?_
 simp only[eH,List.getElem?_set,DM,VX,nI,beq_eq];by_cases e:d=k;subst e;simp[aE];simp only[e,if_false,yB,zD];exact N9 n l hk
section
variable{P:DC}{T:Tb}{aA r:X Oper}{o:Oper}{n:Nat}{l:X (Nat×U)}{Y Y':Sg}{K:X U->Sg->Prop}{u:U}
variable{C:PG}
variable{d:Tmp}
def RS.op(hw:c8 aA (fr n l) o=some true)(h:bI T Y (fr n l) o.op=some (u,Y'))(he:o.dst=some d)(hd:Nat.blt d n=true)(hk:RU C T aA r (fr n ((d,u)::l)) Y' K):RU C T aA (o::r) (fr n l) Y K :=
 .inl ⟨hw,u,Y',h,by rw[he,sG (d:=some d) u hd];exact hk⟩
def RS.opn(hw:c8 aA (fr n l) o=some true)(h:bI T Y (fr n l) o.op=some (u,Y'))(he:o.dst=none)(hk:RU C T aA r (fr n l) Y' K):RU C T aA (o::r) (fr n l) Y K :=
 .inl ⟨hw,u,Y',h,by rw[he];exact hk⟩
def RS.no(hw:c8 aA (fr n l) o=some false)(he:o.dst=some d)(hd:Nat.blt d n=true)(hk:RU C T aA r (fr n ((d,.tup [])::l)) Y K):RU C T aA (o::r) (fr n l) Y K :=
 .inr (.inr (.inl ⟨hw,by rw[he,sG (d:=some d) _ hd];exact hk⟩))
variable{b:PE}
def RS.nilq{t e ty:TypeId}{xo yo:Xt}{rs:X (X U)}(hw:c8 aA (fr n l) o=some true)(ho:o.op=.binOp .eql t xo yo ty)(hd:T.und t=some (.slice e))(hx:bM n l xo=some (.isl b rs))(hy:bM n l yo=some .nils)(he:o.dst=some d)(bH:Nat.blt d n=true)(hk:∀z:PE,(z=true->rs=[])->RU C T aA r (fr n ((d,.bool z)::l)) Y K):RU C T aA (o::r) (fr n l) Y K :=
 .inr (.inr (.inr (.inl ⟨hw,t,xo,yo,ty,e,b,rs,ho,hd,dQ hx,dQ hy,fun z hz=>by rw[he,sG (d:=some d) _ bH];exact hk z hz⟩)))
def RS.step{u:U}{Y':Sg}(hw:c8 aA (fr n l) o=some true)(hs:fN C Y (fr n l) o (fun u' Y1=>u'=u/\Y1=Y'))(he:o.dst=some d)(hd:Nat.blt d n=true)(hk:RU C T aA r (fr n ((d,u)::l)) Y' K):RU C T aA (o::r) (fr n l) Y K :=
 .inr (.inr (.inr (.inr ⟨hw,_,hs,fun u' Y1 h=>by rw[h.1,h.2,he,sG (d:=some d) _ hd];exact hk⟩)))
def RS.done(h:K (fr n l) Y):RU C T aA [] (fr n l) Y K:=h
def RS.call{f:FuncId}{args:X U}(hw:c8 aA (fr n l) o=some true)(hc:jO T (fr n l) o.op=some (f,args))(jJ:aW C.prog f args Y (fun u' Y'=>u'=u/\Y'=Y))(he:o.dst=some d)(hd:Nat.blt d n=true)(hk:RU C T aA r (fr n ((d,u)::l)) Y K):RU C T aA (o::r) (fr n l) Y K :=
 RU.pcall hw hc jJ (by rw[he,sG (d:=some d) u hd];exact hk)
def RS.fcall{C:PG}{f:FuncId}{args args':X U}{Y1:Sg}(hw:c8 aA (fr n l) o=some true)(hc:jO T (fr n l) o.op=some (f,args))(hg:Gh Y.nx args Y args' Y1)(hn:Y.nx<=Y1.nx)(jJ:aW C.prog f args' Y1 (fun u' Y'=>u'=u/\Y'=Y1)){d:Tmp}(he:o.dst=some d)(hd:Nat.blt d n=true)(hk:RU C T aA r (fr n ((d,u)::l)) Y1 K):RU C T aA (o::r) (fr n l) Y K :=
 RU.fcall hw hc hg hn jJ (by rw[he,sG (d:=some d) u hd];exact hk)
variable{j:Nat}
variable{want:PE}
def td(hg:o.guard=some (j,want))(hj:AM aA j=some d)(hl:bM n l (.tmp d)=some (.bool b))(hb:b=want):c8 aA (fr n l) o=some true:=by have:=dQ hl;simp only[cG]at this;simp[c8,hg,hj,this,hb]
def qu(hg:o.guard=some (j,want))(hj:AM aA j=some d)(hl:bM n l (.tmp d)=some (.bool b))(hb:b= !want):c8 aA (fr n l) o=some false:=by have:=dQ hl;simp only[cG]at this;cases want<;>simp[c8,hg,hj,this,hb]
def GS{q:X U}(hg:o.guard=some (j,want))(hj:AM aA j=some d)(hl:bM n l (.tmp d)=some (.tup q)):c8 aA (fr n l) o=some false:=by have:=dQ hl;simp only[cG]at this;simp[c8,hg,hj,this]
end
section
variable{P:DC}{T:Tb}{aA r:X Oper}{o:Oper}{n:Nat}{l:X (Nat×U)}{Y Y':Sg}{aZ:X RK}{K:X RK->X U->Sg->Prop}{u:U}
variable{d:Tmp}
def RD.look(hw:c8 aA (fr n l) o=some true)(h:bI T Y (fr n l) o.op=some (u,Y))(he:o.dst=some d)(hd:Nat.blt d n=true)(hk:RH P T aA r (fr n ((d,u)::l)) Y ((1,⟨fr n l,o,u,false,false,Y,Y⟩)::aZ) K):RH P T aA (o::r) (fr n l) Y aZ K :=
 .inl ⟨hw,u,h,by rw[he,sG (d:=some d) u hd];exact hk⟩
def RD.act(hw:c8 aA (fr n l) o=some true)(h:bI T Y (fr n l) o.op=some (u,Y'))(he:o.dst=some d)(hd:Nat.blt d n=true)(hk:RH P T aA r (fr n ((d,u)::l)) Y' ((3,⟨fr n l,o,u,true,true,Y,Y'⟩)::aZ) K):RH P T aA (o::r) (fr n l) Y aZ K :=
 .inr (.inl ⟨hw,u,Y',h,by rw[he,sG (d:=some d) u hd];exact hk⟩)
def Fj(hw:c8 aA (fr n l) o=some true)(h:bI T Y (fr n l) o.op=some (u,Y'))(he:o.dst=none)(hk:RH P T aA r (fr n l) Y' ((3,⟨fr n l,o,u,true,true,Y,Y'⟩)::aZ) K):RH P T aA (o::r) (fr n l) Y aZ K :=
 .inr (.inl ⟨hw,u,Y',h,by rw[he];exact hk⟩)
def RD.no(hw:c8 aA (fr n l) o=some false)(he:o.dst=some d)(hd:Nat.blt d n=true)(hk:RH P T aA r (fr n ((d,.tup [])::l)) Y ((0,⟨fr n l,o,.tup [],false,false,Y,Y⟩)::aZ) K):RH P T aA (o::r) (fr n l) Y aZ K :=
 .inr (.inr (.inr (.inr (.inl ⟨hw,by rw[he,sG (d:=some d) _ hd];exact hk⟩))))
def RD.free{f:FuncId}{args:X U}(hw:c8 aA (fr n l) o=some true)(hc:jO T (fr n l) o.op=some (f,args))(jJ:∀s,aW P f args s (fun u' Y'=>u'=u/\Y'=s))(he:o.dst=some d)(hd:Nat.blt d n=true)(hk:RH P T aA r (fr n ((d,u)::l)) Y ((0,⟨fr n l,o,u,false,false,Y,Y⟩)::aZ) K):RH P T aA (o::r) (fr n l) Y aZ K :=
 .inr (.inr (.inr (.inr (.inr (.inl ⟨hw,u,.inl ⟨f,args,hc,jJ⟩,by rw[he,sG (d:=some d) u hd];exact hk⟩)))))
def qr(hw:c8 aA (fr n l) o=some true)(hf:sX P T (fr n l) o.op u)(he:o.dst=some d)(hd:Nat.blt d n=true)(hk:RH P T aA r (fr n ((d,u)::l)) Y ((0,⟨fr n l,o,u,false,false,Y,Y⟩)::aZ) K):RH P T aA (o::r) (fr n l) Y aZ K :=
 .inr (.inr (.inr (.inr (.inr (.inl ⟨hw,u,hf,by rw[he,sG (d:=some d) u hd];exact hk⟩)))))
def RD.fz{u1:U}{s1 Y':Sg}(hw:c8 aA (fr n l) o=some true)(h:bI T Y (fr n l) o.op=some (u1,s1))(hg:Gh s1.nx [u1] s1 [u] Y')(hn:s1.nx<=Y'.nx)(he:o.dst=some d)(hd:Nat.blt d n=true)(hk:RH P T aA r (fr n ((d,u)::l)) Y' ((3,⟨fr n l,o,u,true,true,Y,Y'⟩)::aZ) K):RH P T aA (o::r) (fr n l) Y aZ K :=
 .inr (.inr (.inr (.inr (.inr (.inr ⟨hw,u1,s1,d,u,Y',h,he,by rw[DM];rwa [Nat.blt_eq]at hd,hg,hn,by rw[he,sG (d:=some d) u hd];exact hk⟩)))))
def fN.fz{C:PG}(hT:j0 C.prog T){u1:U}{s1 Y':Sg}(h:bI T Y (fr n l) o.op=some (u1,s1))(hg:Gh s1.nx [u1] s1 [u] Y')(hn:s1.nx<=Y'.nx)(he:o.dst=some d)(hd:Nat.blt d n=true):fN C Y (fr n l) o (fun u' Y1=>u'=u/\Y1=Y'):=
 fun F x tv m w a next Q fH st hG hk ro eZ=>wH (RG h) (St.opfz hT st o (by rw[fH];exact h) he (by rw[DM];rwa [Nat.blt_eq]at hd) hg hn fun y dJ aL w₁ bD e1 bJ aS iH iR m8=>hk u y dJ aL w₁ bD ⟨rfl,e1⟩ bJ aS iH iR m8)
def RD.call{f:FuncId}{args:X U}(hw:c8 aA (fr n l) o=some true)(hc:jO T (fr n l) o.op=some (f,args))(jJ:aW P f args Y (fun u' Y'=>u'=u/\Y'=Y)){d:Tmp}(he:o.dst=some d)(hd:Nat.blt d n=true)(hk:RH P T aA r (fr n ((d,u)::l)) Y ((2,⟨fr n l,o,u,true,false,Y,Y⟩)::aZ) K):RH P T aA (o::r) (fr n l) Y aZ K :=
 RH.call hw hc jJ (by rw[he,sG (d:=some d) u hd];exact hk)
def RD.fcall{f:FuncId}{args args':X U}{Y1:Sg}(hw:c8 aA (fr n l) o=some true)(hc:jO T (fr n l) o.op=some (f,args))(hg:Gh Y.nx args Y args' Y1)(hn:Y.nx<=Y1.nx)(jJ:aW P f args' Y1 (fun u' Y'=>u'=u/\Y'=Y1)){d:Tmp}(he:o.dst=some d)(hd:Nat.blt d n=true)(hk:RH P T aA r (fr n ((d,u)::l)) Y1 ((3,⟨fr n l,o,u,true,true,Y,Y1⟩)::aZ) K):RH P T aA (o::r) (fr n l) Y aZ K :=
 RH.fcall hw hc hg hn jJ (by rw[he,sG (d:=some d) u hd];exact hk)
def bC(h:K aZ (fr n l) Y):RH P T aA [] (fr n l) Y aZ K:=h
end
def qC(l:X (Nat×U)):X (Nat×U)->Prop
 |[]=>True|(i,u)::r=>nI l i=some u/\qC l r
def qs6{l:X (Nat×U)}:∀{r:X (Nat×U)},qC l r->∀i u,nI r i=some u->nI l i=some u
 |[],_,i,u,h=>by cases h
 |(j,v)::r,hs,i,u,h=>by simp only[qC]at hs;simp only[nI,beq_eq]at h;by_cases e:j=i;subst e;simp at h;subst h;exact hs.1;simp only[e,yB,zD]at h;exact qs6 hs.2 i u h
def ng{x:Cx}{tv:X Value}(hl:tv.length=n)(h:∀i u,i<n->nI l i=some u->∃v,tv[i]? = some v/\aC x u v):bA x (fr n l) tv:=by
 refine bA.mk' (by rw[DM,hl]) fun i u hi=>?_;have aE:i<n:=by have:=(zG.1 hi).1;rwa [DM]at this
 rw[N9 n l aE]at hi;cases hk:nI l i with
 |none=>rw[hk]at hi;simp at hi;subst hi;exact⟨tv[i],List.getElem?_eq_getElem qq0,by simp[aC]⟩|some w=>rw[hk]at hi;simp at hi;subst hi;exact h i w aE hk
def qrx{x:Cx}{tv:X Value}(he:bA x (fr n l) tv){i:Nat}(hi:i<n)(h:nI l i=some u):∃v,tv[i]? = some v/\aC x u v :=
 he.get (by rw[N9 n l hi,h];rfl)
variable{n0:Nat}
variable{l':X (Nat×U)}
variable{Y:Sg}
def Gh.sub(h:qC l l'):Gh n0 (fr n l) Y (fr n l') Y:=fun F x tv hx hr hf he=>
 ⟨x,fun m w hf=>bT.refl hf,hx,hr,hf,ng (by rw[<-he.2,DM]) (fun i u hi hl=>qrx he hi (qs6 h i u hl)),Ke.refl _ _⟩
def OK:Nat->X U->X (Nat×U)
 |_,[]=>[]|i,u::l=>(i,u)::OK (i+1) l
def qr5:∀(l:X U)(i k:Nat)(u:U),nI (OK i l) k=some u->i<=k/\l[k-i]? = some u
 |[],i,k,u,h=>by cases h
 |v::l,i,k,u,h=>by simp only[OK,nI,beq_eq]at h;by_cases e:i=k;subst e;simp at h;subst h;simp;simp only[e,yB,zD]at h;obtain⟨h1,h2⟩:=qr5 l (i+1) k u h;refine⟨by omega,?_⟩;rw[show k-i=(k-(i+1))+1 by omega];simpa using h2
def qw4:∀(n:Nat)(l:X U)(k:Nat)(u:U),l[k]? = some u->(F1 n l)[k]? = some u
 |0,l,k,u,h=>h|n+1,[],k,u,h=>by simp at h
 |n+1,v::l,0,u,h=>by simpa[F1]using h
 |n+1,v::l,k+1,u,h=>by simp only[F1,zH]at*;exact qw4 n l k u h
def n_:∀(n:Nat)(l:X U),l.length<=n->(F1 n l).length=n
 |0,l,h=>by simp[F1];exact List.eq_nil_of_length_eq_zero qq0
 |n+1,[],h=>by simp[F1,n_ n [] qq4]
 |n+1,v::l,h=>by simp[F1,n_ n l (by simpa using h)]
def Fk{args:X U}(h:args.length<=n):Gh n0 (F1 n args) Y (fr n (OK 0 args)) Y:=fun F x tv hx hr hf he=>
 ⟨x,fun m w hf=>bT.refl hf,hx,hr,hf,ng (by rw[<-he.2,n_ n args h]) (fun i u hi hl=>by obtain⟨_,h2⟩:=qr5 args 0 i u hl;exact he.get (qw4 n args i u (by simpa using h2))),Ke.refl _ _⟩
def BelS(n:Nat):X (Nat×U)->Prop
 |[]=>True|(_,u)::l=>aT n u/\BelS n l
def qq6{n:Nat}:∀{l:X (Nat×U)},BelS n l->∀i u,nI l i=some u->aT n u
 |[],_,i,u,h=>by cases h
 |(j,v)::l,hb,i,u,h=>by simp only[BelS]at hb;simp only[nI,beq_eq]at h;by_cases e:j=i;subst e;simp at h;subst h;exact hb.1;simp only[e,yB,zD]at h;exact qq6 hb.2 i u h
def YD{n1:Nat}(h:BelS n1 l):aG n1 (fr n l):=by
 rw[vG];intro u hu;obtain⟨i,hi,rfl⟩:=List.getElem_of_mem hu;have aE:i<n:=by rwa [DM]at hi
 have:=N9 n l aE;rw[List.getElem?_eq_getElem hi]at this;simp only[zA]at this;rw[this];rcases hk:nI l i with _|w;simp[aT];exact qq6 h i w hk
def Gh.toS{n1:Nat}{Y':Sg}(ht:qC l l')(hs:(⟨Vx.cut n1 Y.h,n1⟩:Sg)=Y')(h1:n0<=n1)(h2:n1<=Y.nx)(hb:BelS n1 l')(hh:F5 n1 Y'.h):Gh n0 (fr n l) Y (fr n l') Y':=by subst hs;exact(Gh.sub ht).trans (Gh.cut h1 h2 (YD hb) hh)
def D7{Y':Sg}(ht:qC l l')(hs:Y=Y'):Gh n0 (fr n l) Y (fr n l') Y':=by subst hs;exact Gh.sub ht
def fzS(K:Nat)(b:B)(sz:Nat):X (Nat×U)->X (Nat×U)
 |[]=>[]|(i,u)::l=>(i,fz K b sz u)::fzS K b sz l
def qvi(K:Nat)(b:B)(sz:Nat):∀(l:X (Nat×U))(i:Nat),nI (fzS K b sz l) i=(nI l i).map (fz K b sz)
 |[],i=>rfl|(j,u)::l,i=>by simp only[fzS,nI,beq_eq,qvi K b sz l i];by_cases e:j=i<;>simp[e]
def Di(K:Nat)(b:B)(sz n:Nat)(l:X (Nat×U)):gU K b sz (fr n l)=fr n (fzS K b sz l):=by
 refine z7i (by rw[YC,DM]) fun k hk=>?_;have hm:∀(t:X U)(k:Nat),(gU K b sz t)[k]? = (t[k]?).map (fz K b sz):=by
  intro t;induction t with
  |nil=>intro k;simp[gU]|cons u t ih=>intro k;cases k<;>simp[gU,ih]
 rw[hm,N9 n l hk,qvi];rcases nI l k with _|w;simp[RW];rfl
def Gh.fzS{h':X (Nat×B)}(K:Nat)(b:B)(sz:Nat)(hg:gt Y.h K=some b)(hb:∀es cl,b≠.map es cl)(ht:Vx.fzS K b sz l=l')(hh:fzH K b sz Y.h=h'):Gh n0 (fr n l) Y (fr n l') ⟨h',Y.nx⟩:=by subst ht;subst hh;rw[<-Di];exact Gh.freeze sz hg hb
inductive Lh:List (Nat×U)->List (Nat×U)->Prop
 |nil:Lh [] []
 |cons {i:Nat} {u u':U} {l l':List (Nat×U)} (h:Wk u u') (h':Lh l l'):Lh ((i,u)::l) ((i,u')::l')
def Lh.look:∀{l l':X (Nat×U)},Lh l l'->∀i u',nI l' i=some u'->∃u,nI l i=some u/\Wk u u'
 |_,_,.nil,i,u',h=>by cases h
 |_,_,.cons (i:=j) h h',i,u',hu=>by simp only[nI,beq_eq]at hu ⊢;by_cases e:j=i;subst e;simp at hu;subst hu;exact⟨_,by simp,h⟩;simp only[e,yB,zD]at hu ⊢;exact h'.look i u' hu
def Gh.wkS(h:Lh l l'):Gh n0 (fr n l) Y (fr n l') Y:=fun F x tv hx hr hf he=>
 ⟨x,fun m w hf=>bT.refl hf,hx,hr,hf,ng (by rw[<-he.2,DM]) (fun i u hi hl=>by obtain⟨w,h1,h2⟩:=h.look i u hl;obtain⟨v,h3,h4⟩:=qrx he hi h1;exact⟨v,h3,h2.rel h4⟩),Ke.refl _ _⟩
def Gh.nilS(i:Nat)(e:TypeId)(sz:Nat)(eY:0<sz)(h0:n0<=Y.nx)(hi:bM n l (.tmp i)=some .nils)(hd:bz n (some i)=true):Gh n0 (fr n l) Y (fr n ((i,.vl Y.nx 0 0 0)::l)) (newU Y (.vec [] e sz 0)):=by
 have h1:=dQ hi;have h2:=Gh.nilvec (n0:=n0) (Y:=Y) i e sz eY h0 (tm:=fr n l) h1;have h3:=sG (n:=n) (l:=l) (d:=some i) (.vl Y.nx 0 0 0) hd;simp only[eH,VX]at h3
 rwa [h3]at h2
variable{c:Xt}
variable{t:PE}
def eG{C:PG}{Q:Exit->X U->Sg->Prop}{p q:Code}(hc:bM n l c=some (.bool t))(h1:t=true->WPU C n0 p (fr n l) Y Q)(h2:t=false->WPU C n0 q (fr n l) Y Q):WPU C n0 (.cond c p q) (fr n l) Y Q:=WPU.cond (dQ hc) h1 h2
variable{T:Tb}
variable{us:X U}
def dT{t:Tmp}{rs:X ResultVar}(h:bM n l (.tmp t)=some u)(hr:kZ T Y (fr n l) rs=some us):kZ T Y (fr n l) (.tmp t::rs)=some (u::us):=by have:=dQ h;simp only[cG]at this;simp[kZ,this,hr]
def eD:kZ T Y (fr n l) []=some []:=rfl
variable{t:TypeId}
def nH{a:Tmp}{rs:X ResultVar}(h:bI T Y (fr n l) (.load t (.tmp a))=some (u,Y))(hr:kZ T Y (fr n l) rs=some us):kZ T Y (fr n l) (.cell a t::rs)=some (u::us):=by
 have:qX T Y (fr n l) (.load t (.tmp a))=some u:=by have hp:i4 T Y (fr n l) (.load t (.tmp a))=none:=rfl;have he:qU T Y (fr n l) (.load t (.tmp a))=none:=rfl;unfold bI at h;rw[hp]at h;simp only at h;rcases hr:qX T Y (fr n l) (.load t (.tmp a))with _|v;rw[hr,he]at h;cases h;rw[hr]at h;simp at h;rw[h]
 simp[kZ,this,hr]
section
variable{T:Tb}{Y Y':Sg}{n:Nat}{l:X (Nat×U)}{u v w:U}
def tL{op:Op}(h:i4 T Y (fr n l) op=some u):bI T Y (fr n l) op=some (u,Y):=by simp[bI,h]
def Q6{op:Op}(h0:i4 T Y (fr n l) op=none)(h:qX T Y (fr n l) op=some u):bI T Y (fr n l) op=some (u,Y):=by simp[bI,h,h0]
variable{q:U×Sg}
def JZ{op:Op}(h0:i4 T Y (fr n l) op=none)(h1:qX T Y (fr n l) op=none)(h:qU T Y (fr n l) op=some q):bI T Y (fr n l) op=some q:=by simp[bI,h,h0,h1]
variable{x:Xt}
def oD(h:bM n l x=some u):bI T Y (fr n l) (.move x)=some (u,Y):=tL (dQ h)
def S_(h:bM n l x=some u):bI T Y (fr n l) (.assign x)=some (u,Y):=tL (dQ h)
variable{a:Xt}
def qvw{b:Xt}{t:PE}(hc:bM n l c=some (.bool t))(ht:t=true)(h:bM n l a=some u):bI T Y (fr n l) (.pick c a b)=some (u,Y):=tL (by subst ht;simp only[i4,dQ hc];exact dQ h)
def qvv{b:Xt}{t:PE}(hc:bM n l c=some (.bool t))(ht:t=false)(h:bM n l b=some u):bI T Y (fr n l) (.pick c a b)=some (u,Y):=tL (by subst ht;simp only[i4,dQ hc];exact dQ h)
variable{off:Nat}
def DJ{st:Nat}(h:bM n l x=some (.ptr k st off))(hl:live Y k st=true):bI T Y (fr n l) (.nilCheck x)=some (.ptr k st off,Y):=tL (by simp only[i4,dQ h,hl,zC])
def YG{ps:Zu (Nat×Xt)}{qs:X (Nat×U)}(h:BZ n l ps.toList=some qs)(hb:Gt T t qs=some u):bI T Y (fr n l) (.build t ps)=some (u,Y):=tL (by simp only[i4,xa h,hb])
variable{t':TypeId}
variable{y:Xt}
def Gn{op:BinOp}(hx:bM n l x=some v)(hy:bM n l y=some w)(h:g2 (sF T op t) v w=some u):bI T Y (fr n l) (.binOp op t x y t')=some (u,Y):=tL (by simp only[i4,dQ hx,dQ hy,JJ,h])
def ZT{op:BinOp}(hx:bM n l x=some v)(hy:bM n l y=some w)(h0:g2 (sF T op t) v w=none)(h:Gp T Y op t v w=some u):bI T Y (fr n l) (.binOp op t x y t')=some (u,Y):=tL (by simp only[i4,dQ hx,dQ hy,JJ,h0,h])
variable{k:IntKind}
variable{r:Value}
def yI{op:BinOp}{k':IntKind}{a b:Int}(hx:bM n l x=some (.int k a))(hy:bM n l y=some (.int k' b))(h:kB op k a k' b=some r)(hr:jP r=some u):bI T Y (fr n l) (.binOp op t x y t')=some (u,Y):=Gn hx hy (by simp only[g2,toV,sF,h,hr])
def FA{op:BinOp}{a b:X Yv}(hx:bM n l x=some (.str a))(hy:bM n l y=some (.str b))(h:GJ op ⟨⟨a⟩⟩ ⟨⟨b⟩⟩=some r)(hr:jP r=some u):bI T Y (fr n l) (.binOp op t x y t')=some (u,Y):=Gn hx hy (by simp only[g2,toV,sF,h,hr])
def SX{op:UnOp}(hx:bM n l x=some v)(h:toV v=some (r)){q:Value}(hu:QL op r=some q)(hq:jP q=some u):bI T Y (fr n l) (.unOp op t x)=some (u,Y):=tL (by simp only[i4,dQ hx,g1,h,hu,hq])
def z0p{s d:TypeId}{q:Value}(hx:bM n l x=some v)(h:toV v=some r)(hu:XX T s d r=some q)(hq:jP q=some u):bI T Y (fr n l) (.convert s d x)=some (u,Y):=tL (by simp only[i4,dQ hx,g1,h,hu,hq])
def wh{f:Fn}{first cap:Zu Xt}{a b:X U}(h1:K3 n l first.toList=some a)(h2:K3 n l cap.toList=some b):bI T Y (fr n l) (.makeFunc f first cap)=some (.fn f a b,Y):=tL (by simp only[i4,Gs h1,Gs h2])
variable{k:Nat}
def pO{f:Nat}{fs:Zu Field}{fd:Field}{s st:Nat}(hd:T.und t=some (.struct fs))(hf:nth fs.toList f=some fd)(hs:cD T fd.type=some (s+1))(hx:bM n l x=some (.ptr k st off))(hl:live Y k st=true){iB:Nat}(ho:off+fd.offset=iB):bI T Y (fr n l) (.fieldAddr t x f)=some (.ptr k st iB,Y):=tL (by subst ho;simp only[i4,dQ hx,Pl,hd,hf,hs,hl,zC])
variable{q:X U}
def tj{f:Nat}{fs:Zu Field}{fd:Field}{s:Nat}(hd:T.und t=some (.struct fs))(hf:nth fs.toList f=some fd)(hs:cD T fd.type=some (s+1))(hx:bM n l x=some (.iptr q)){q':X U}(hq:q.drop fd.offset=q'):bI T Y (fr n l) (.fieldAddr t x f)=some (.iptr q',Y):=tL (by subst hq;simp only[i4,dQ hx,Pl,hd,hf,hs])
def z7z{i:Nat}(hx:bM n l x=some (.tup q))(h:nth q i=some u):bI T Y (fr n l) (.extract x i)=some (u,Y):=tL (by simp only[i4,dQ hx,jo,h])
def dZ{i:Xt}(hx:bM n l x=some v)(hi:bM n l i=some w)(h:C5 T Y t v w=some u):bI T Y (fr n l) (.indexAddr t x i)=some (u,Y):=tL (by simp only[i4,dQ hx,dQ hi,h])
variable{v12:Type}
variable{e:TypeId}
variable{sz:Nat}
variable{b:PE}
variable{xs:X v12}
variable{i:Int}
def Gq(c:v12->X U){k:IntKind}{x:v12}(hd:T.und t=some (.slice e))(hs:cD T e=some sz)(hc:∀x,(c x).length=sz)(hx:aB xs i=some x)(hq:c x=q):C5 T Y t (.isl b (xs.map c)) (.int k i)=some (.iptr q):=by
 subst hq;obtain⟨h1,h2,h3⟩:=qzx c hx;have:Nat.beq (c x).length sz=true:=by simp[beq_eq,hc]
 simp only[C5,hd,hs,yA,h1,h2,and_self,if_true,h3,this,zC]
variable{e':TypeId}
variable{K:Nat}
def kC(c:v12->X U){st:Nat}{k:IntKind}{x:v12}(hd:T.und t=some (.slice e))(hs:cD T e=some sz)(hz:0<sz)(hc:∀x,(c x).length=sz)(hv:oA Y K st=some ((xs.map c).flatten,e',sz))(hx:aB xs i=some x):C5 T Y t (.vl K st 0 xs.length) (.int k i)=some (.ptr K st (0*sz+i.toNat*sz)):=by
 obtain⟨h1,h2,h3⟩:=NH hx;have cR:=W9 hc hz hx;have hb:Nat.beq sz sz=true:=by simp[beq_eq]
 simp only[C5,hd,hs,hv,hb,zC,h1,h2,ne_eq,cR,not_false_eq_true,and_self,if_true]
variable{d:TypeDesc}
def Ae(c:v12->X U){st:Nat}{x:v12}(hd:T.und t=some d)(ha:qE d=true)(hs:cD T t=some sz)(hc:∀x,(c x).length=sz)(ho:bM n l o=some (.ptr K st (0*sz+i.toNat*sz)))(hv:gt Y.h K=some (.vec (xs.map c).flatten e' sz st))(hx:aB xs i=some x)(hq:c x=q):bI T Y (fr n l) (.load t o)=some (.agg q,Y):=by
 subst hq;refine Q6 rfl ?_;have hb:Nat.beq st st=true:=by simp[beq_eq]
 simp only[qX,dQ ho,cellsOf,hv,hb,zC,F6,hd,ha,hs,z3f hc hx]
def sY(c:v12->X U){st:Nat}{x:v12}(f:v12->U)(hd:T.und t=some d)(ha:qE d=false)(hc:∀x,c x=[f x])(ho:bM n l o=some (.ptr K st (0*1+i.toNat*1)))(hv:gt Y.h K=some (.vec (xs.map c).flatten e' 1 st))(hx:aB xs i=some x):bI T Y (fr n l) (.load t o)=some (f x,Y):=by
 refine Q6 rfl ?_;have hb:Nat.beq st st=true:=by simp[beq_eq]
 simp only[qX,dQ ho,cellsOf,hv,hb,zC,F6,hd,ha,zD,zav (fun x=>by rw[hc];rfl) hc hx]
def L1{lo hi:V Xt}{a b:V Value}(hx:bM n l x=some v)(h1:AP (fr n l) lo=some a)(h2:AP (fr n l) hi=some b)(h:RB T Y t v a b=some u):bI T Y (fr n l) (.slice t x lo hi none)=some (u,Y):=tL (by simp only[i4,dQ hx,h1,h2,h])
def MD:AP (fr n l) none=some none:=rfl
def MC{k:IntKind}{z:Int}(h:bM n l o=some (.int k z)):AP (fr n l) (some o)=some (some (.int k z)):=by simp only[AP,dQ h]
def Oc(c:v12->X U){a h m:Nat}{ys:X v12}{lo hi:V Value}(hd:T.und t=some (.slice e))(hs:cD T e=some sz)(hc:∀x,(c x).length=sz)(hb:mV xs.length xs.length lo hi=some (a,h,m))(hy:tM (xs.map c) a h=ys.map c):RB T Y t (.isl b (xs.map c)) lo hi=some (.isl (cond b (Nat.beq h xs.length) false) (ys.map c)):=by simp only[RB,hd,hs,qyj hc xs,if_true,yA,hb,hy]
variable{args:Zu Xt}
variable{ts:Zu TypeId}
def H5(ha:args.toList=[x]){q:X TypeId}(ht:ts.toList=t::q)(hx:bM n l x=some v)(h:w6 T Y t v=some u):bI T Y (fr n l) (.call { callee:=.builtin .len,args:=args,argTypes:=ts })=some (u,Y):=tL (by simp only[i4,ha,ht,oC,dQ hx,h])
def om(c:v12->X U)(hd:T.und t=some (.slice e)):w6 T Y t (.isl b (xs.map c))=some (.int .i64 xs.length):=by simp[w6,hd]
def z81{xs:X Xt}{a:Value}{b:X Value}(ha:args.toList=x::xs)(hx:bM n l x=some v)(hl:K3 n l xs=some us)(h1:toV v=some a)(h2:lL us=some b)(h:wC R8 a b=some r)(hr:jP r=some u):bI T Y (fr n l) (.call { callee:=.builtin .max,args:=args,argTypes:=ts })=some (u,Y):=tL (by simp only[i4,ha,oC,dQ hx,Gs hl,h1,h2,h,hr])
def aa{xs:X Xt}{a:Value}{b:X Value}(ha:args.toList=x::xs)(hx:bM n l x=some v)(hl:K3 n l xs=some us)(h1:toV v=some a)(h2:lL us=some b)(h:wC R7 a b=some r)(hr:jP r=some u):bI T Y (fr n l) (.call { callee:=.builtin .min,args:=args,argTypes:=ts })=some (u,Y):=tL (by simp only[i4,ha,oC,dQ hx,Gs hl,h1,h2,h,hr])
variable{cs:X U}
def kL{st:Nat}(hd:T.und t=some d)(ha:qE d=true)(hs:cD T t=some sz)(hx:bM n l x=some (.ptr k st off))(hc:cellsOf Y k st=some q)(h:kY q off sz=some cs):bI T Y (fr n l) (.load t x)=some (.agg cs,Y):=Q6 rfl (by simp only[qX,dQ hx,hc,F6,hd,ha,hs,h,zC])
def yL{st:Nat}(hd:T.und t=some d)(ha:qE d=false)(hx:bM n l x=some (.ptr k st off))(hc:cellsOf Y k st=some q)(h:nth q off=some u):bI T Y (fr n l) (.load t x)=some (u,Y):=Q6 rfl (by simp only[qX,dQ hx,hc,F6,hd,ha,h,zD])
def z7t(hd:T.und t=some d)(ha:qE d=true)(hs:cD T t=some sz)(hx:bM n l x=some (.iptr q))(h:kY q 0 sz=some cs):bI T Y (fr n l) (.load t x)=some (.agg cs,Y):=Q6 rfl (by simp only[qX,dQ hx,F6,hd,ha,hs,h,zC])
def Of(hd:T.und t=some d)(ha:qE d=false)(hx:bM n l x=some (.iptr q))(h:nth q 0=some u):bI T Y (fr n l) (.load t x)=some (u,Y):=Q6 rfl (by simp only[qX,dQ hx,F6,hd,ha,h,zD])
def ZU(hx:bM n l x=some v)(h:vC v=some cs)(hk:okL cs=true):bI T Y (fr n l) (.box e x)=some (.ptr Y.nx 0 0,newU Y (.row cs e)):=JZ rfl rfl (by simp only[qU,dQ hx,h,hk,zC])
variable{z:Value}
def qvt{a b:Nat}{zu:X U}(hi:T.inf e=some (a,b,z))(hz:pM z.cells.toList=some zu)(hk:okL zu=true):bI T Y (fr n l) (.alloc e)=some (.ptr Y.nx 0 0,newU Y (.row zu e)):=JZ rfl rfl (by simp only[qU,hi,hz,hk,zC])
def qvx{st:Nat}{q':X U}(hs:cD T t=some sz)(ha:bM n l a=some (.ptr k st off))(hx:bM n l x=some v)(hc:vC v=some cs)(hl:Nat.beq cs.length sz=true)(hk:okL cs=true)(hg:cellsOf Y k st=some q)(hp:qT q off (EU Y k cs)=some q')(Ba:MY Y k q'=some Y'):bI T Y (fr n l) (.store t a x)=some (.junk,Y'):=JZ rfl rfl (by simp only[qU,dQ ha,dQ hx,XZ,hs,hc,hl,hk,zC,hg,hp,Ba])
def Tg{ps:Zu (Nat×Xt)}{qs:X (Nat×U)}{q:U×Sg}(h:BZ n l ps.toList=some qs)(hb:Pp T Y t k qs=some q):bI T Y (fr n l) (.buildSlice t k ps)=some q:=JZ rfl rfl (by simp only[qU,xa h,hb])
def Tf{q:U×Sg}(hx:bM n l x=some v)(hy:bM n l y=some w)(hb:Lr T Y t v w=some q):bI T Y (fr n l) (.makeSlice t x y)=some q:=JZ rfl rfl (by simp only[qU,dQ hx,dQ hy,hb])
variable{xt:TypeId}
def pQ{q:U×Sg}(ha:args.toList=[x,y])(ht:ts.toList=[t,xt])(hx:bM n l x=some v)(hy:bM n l y=some w)(h:C4 T Y t xt v w=some q):bI T Y (fr n l) (.call { callee:=.builtin .append,args:=args,argTypes:=ts })=some q:=JZ rfl rfl (by simp only[qU,ha,ht,oC,dQ hx,dQ hy,jr,h])
def yN{c:Call}{f:Xt}{g:FuncId}{fn:Func}{first cap a7:X U}(hc:c.callee=.value f)(hf:bM n l f=some (.fn (.func g) first cap))(hg:T.fn g=some fn)(hb:fn.body.isSome=true)(ha:K3 n l c.args.toList=some a7){args:X U}(he:first++a7++cap=args):jO T (fr n l) (.call c)=some (g,args):=by subst he;simp only[jO,hc,dQ hf,hg,hb,zC,Gs ha]
variable{e2:TypeId}
variable{by_:Nat}
def rk(c:v12->X U)(ys:X v12)(hd:T.und t=some (.slice e))(dL:T.und xt=some (.slice e2))(hi:T.inf e=some (sz+1,by_,z))(hz:Nat.beq z.cells.toList.length (sz+1)=true)(hw:uX Y (sz+1) w=some (ys.length,(ys.map c).flatten))(hr:ys.length*by_<=140737488355328/\ys.length<=140737488355328):C4 T Y t xt .nils w=some (.vl Y.nx 0 0 ys.length,newU Y (.vec (ys.map c).flatten e (sz+1) 0)):=by simp only[C4,hd,dL,hi,hz,zC,hw,hr,and_self,if_true]
def YE(c:v12->X U)(ys:X v12){a:Nat}(hd:T.und t=some (.slice e))(dL:T.und xt=some (.slice e2))(hi:T.inf e=some (sz+1,by_,z))(hz:Nat.beq z.cells.toList.length (sz+1)=true)(hq:rowOf Y a=some q)(ho:Nat.ble off q.length=true)(hw:uX Y (sz+1) w=some (ys.length,(ys.map c).flatten))(hr:ys.length*by_<=140737488355328/\ys.length<=140737488355328):C4 T Y t xt (.sl a off 0 0) w=some (.vl Y.nx 0 0 ys.length,newU Y (.vec (ys.map c).flatten e (sz+1) 0)):=by simp only[C4,hd,dL,hi,hz,zC,hw,hq,hr,and_self,if_true]
def DN(c:v12->X U)(ys:X v12){a st:Nat}(hd:T.und t=some (.slice e))(dL:T.und xt=some (.slice e2))(hi:T.inf e=some (sz+1,by_,z))(hz:Nat.beq z.cells.toList.length (sz+1)=true)(hc:∀x,(c x).length=sz+1)(hg:gt Y.h a=some (.vec (xs.map c).flatten e (sz+1) st))(hw:uX Y (sz+1) w=some (ys.length,(ys.map c).flatten))(hr:(xs.length+ys.length)*by_<=140737488355328/\xs.length+ys.length<=140737488355328):C4 T Y t xt (.vl a st 0 xs.length) w=some (.vl a (st+1) 0 (xs++ys).length,⟨ug Y.h a (.vec ((xs++ys).map c).flatten e (sz+1) (st+1)),Y.nx⟩):=by
 have b1:Nat.beq st st=true:=by simp[beq_eq]
 have b2:Nat.beq e e=true:=by simp[beq_eq]
 have b3:Nat.beq (sz+1) (sz+1)=true:=by simp[beq_eq]
 have hs:=zah hc xs;have hl:=DQ hc xs;rw[qv0,zU];simp only[C4,hd,dL,hi,hz,zC,hw,hg,b1,b2,b3,hs,hl,hr.1,hr.2,true_and,and_true,or_true,if_true]
def z3y(c:v12->X U)(ys:X v12)(hd:T.und t=some (.slice e))(dL:T.und xt=some (.slice e2))(hi:T.inf e=some (sz+1,by_,z))(hz:Nat.beq z.cells.toList.length (sz+1)=true)(hw:uX Y (sz+1) w=some (ys.length,(ys.map c).flatten))(hk:0<ys.length)(hr:ys.length*by_<=140737488355328/\ys.length<=140737488355328):C4 T Y t xt (.isl true []) w=some (.vl Y.nx 0 0 ([]++ys).length,newU Y (.vec (([]++ys).map c).flatten e (sz+1) 0)):=by simp only[C4,hd,dL,hi,hz,zC,hw,hr,hk,and_self,if_true,List.nil_append]
def NB(c:v12->X U)(hc:∀x,(c x).length=sz):uX Y sz (.isl b (xs.map c))=some (xs.length,(xs.map c).flatten):=by simp only[uX,qyj hc xs,if_true,yA]
def FE(c:v12->X U)(ys:X v12)(hq:rowOf Y K=some q)(hs:kY q off (k*sz)=some cs)(hl:k=ys.length)(hc:vY cs=(ys.map c).flatten):uX Y sz (.sl K off k k)=some (ys.length,(ys.map c).flatten):=by subst hl;simp only[uX,hq,hs,hc]
def bB{a b:Nat}(h:T.inf t=some (a,b,z)):cD T t=some a:=by simp only[cD,h]
def vo{st:Nat}(h:gt Y.h K=some (.vec q e sz st)):oA Y K st=some (q,e,sz):=by
 have b:Nat.beq st st=true:=by simp[beq_eq]
 simp only[oA,h,b,zC]
def ak{st m:Nat}(hd:T.und t=some (.slice e))(h:gt Y.h K=some (.vec q e' sz st)):w6 T Y t (.vl K st 0 m)=some (.int .i64 m):=by
 have b:Nat.beq st st=true:=by simp[beq_eq]
 simp only[w6,hd,live,h,B.st,b,zC]
end
def Ar(k:IntKind)(a b:Int):kB .add k a k b=some (.int k (k.wrap (a+b))):=by simp[kB]
def Ag(k:IntKind)(a b:Int):kB .sub k a k b=some (.int k (k.wrap (a-b))):=by simp[kB]
def Ak(k:IntKind)(a b:Int):kB .mul k a k b=some (.int k (k.wrap (a*b))):=by simp[kB]
def wq(k:IntKind){a b:Int}(h:¬ b=0):kB .quo k a k b=some (.int k (k.wrap (a.tdiv b))):=by simp[kB,h]
def z7r(k:IntKind){a b:Int}(h:¬ b=0):kB .rem k a k b=some (.int k (a.tmod b)):=by simp[kB,h]
def Aq(k:IntKind)(a b:Int):kB .eql k a k b=some (.bool (a==b)):=by simp[kB]
def Aj(k:IntKind)(a b:Int):kB .neq k a k b=some (.bool (a != b)):=by simp[kB]
def Am(k:IntKind)(a b:Int):kB .lss k a k b=some (.bool (decide (a<b))):=by simp[kB]
def An(k:IntKind)(a b:Int):kB .leq k a k b=some (.bool (decide (a<=b))):=by simp[kB]
def Ao(k:IntKind)(a b:Int):kB .gtr k a k b=some (.bool (decide (a>b))):=by simp[kB]
def Ap(k:IntKind)(a b:Int):kB .geq k a k b=some (.bool (decide (a>=b))):=by simp[kB]
def Gh.row{n0:Nat}{tm:X U}{Y:Sg}{K:Nat}{q q':X U}{e:TypeId}(hg:gt Y.h K=some (.row q e))(hk:okL q'=true)(iP:∀x vs,x.Y=Y->iZ x->bA x q vs->bA x q' vs):Gh n0 tm Y tm ⟨ug Y.h K (.row q' e),Y.nx⟩:=fun F x tv hx hr hf he=>by
 subst hx
 let y:Cx:=⟨x.I,⟨ug x.Y.h K (.row q' e),x.Y.nx⟩,x.s⟩
 have EE:∀k,gt y.Y.h k=if K=k then some (.row q' e)else gt x.Y.h k:=fun k=>by show gt (ug x.Y.h K (.row q' e)) k=_;rw[bS,hg];rfl
 have fD:Mo x.Y.nx x y:=⟨fun k _ h2=>⟨h2,fun b hb=>by rw[EE]at hb;by_cases ek:K=k;subst ek;simp only[if_true,zA]at hb;subst hb;exact⟨_,hg,zF _,fun _=>⟨rfl,fun l e sz st h=>by cases h⟩⟩;simp only[ek,if_false]at hb;exact⟨b,hb,zF _,fun _=>⟨rfl,fun l e sz st h=>⟨l,h⟩⟩⟩⟩,fun _ _ _ h=>h⟩;refine⟨y,fun m w hf=>bT.refl hf,rfl,⟨fun k b hb=>?_,fun k k' b b' i hb cK=>?_,hr.bd⟩,fun i b O=>?_,fD.ke.E he.bel he,fun u v hb hr=>fD.ke u v (aC.bel u v hr) hr⟩;rw[EE]at hb;by_cases ek:K=k;subst ek;simp only[if_true,zA]at hb;subst hb;obtain⟨h1,k1,i,l',e1,e2,e3⟩:=hr.ok K _ hg;have:=iP x l' rfl hr e3;exact⟨h1,hk,i,l',e1,e2,fD.ke.E this.bel this⟩;simp only[ek,if_false]at hb;obtain⟨h1,h2⟩:=hr.ok k b hb;exact⟨h1,h2.mono fD rfl fun _ _ _ h=>h⟩;have old:∀k b,gt y.Y.h k=some b->∃c,gt x.Y.h k=some c:=fun k b hb=>by rw[EE]at hb;by_cases ek:K=k;subst ek;exact⟨_,hg⟩;simp only[ek,if_false]at hb;exact⟨b,hb⟩
 obtain⟨c,hc⟩:=old k b hb;obtain⟨c',oT⟩:=old k' b' cK;exact hr.inj k k' c c' i hc oT;obtain⟨h1,h2⟩:=hf i b O;refine⟨h1,fun k c hc=>?_⟩;rw[EE]at hc;by_cases ek:K=k;subst ek;exact h2 _ _ hg;simp only[ek,if_false]at hc;exact h2 k c hc
def BO{n0:Nat}{tm:X U}{Y:Sg}(K i:Nat){q:X U}{e0:TypeId}(e:TypeId)(sz:Nat)(eY:0<sz)(h0:n0<=Y.nx)(hg:gt Y.h K=some (.row q e0))(hi:nth q i=some .nils):Gh n0 tm Y tm ⟨ug (newU Y (.vec [] e sz 0)).h K (.row (q.set i (.vl Y.nx 0 0 0)) e0),Y.nx+1⟩:=fun F x tv hx hr hf he=>by
 subst hx;have hK:=(hr.ok K _ hg).1;obtain⟨_,k1,_⟩:=hr.ok K _ hg;have ho:=K_ hr e sz eY;rw[kK]at hi
 let y:Cx:=⟨mB x.I x.Y.nx none,newU x.Y (.vec [] e sz 0),x.s⟩
 have OW:gt y.Y.h K=some (.row q e0):=by show gt ((x.Y.nx,_)::x.Y.h) K=_;rw[aP,if_neg qq0,hg]
 let z:Cx:=⟨y.I,⟨ug y.Y.h K (.row (q.set i (.vl x.Y.nx 0 0 0)) e0),y.Y.nx⟩,y.s⟩
 have EE:∀k,gt z.Y.h k=if K=k then some (.row (q.set i (.vl x.Y.nx 0 0 0)) e0)else gt y.Y.h k:=fun k=>by show gt (ug y.Y.h K _) k=_;rw[bS,OW];rfl
 have fD:Mo y.Y.nx y z:=⟨fun k _ h2=>⟨h2,fun b hb=>by rw[EE]at hb;by_cases ek:K=k;subst ek;simp only[if_true,zA]at hb;subst hb;exact⟨_,OW,zF _,fun _=>⟨rfl,fun l e sz st h=>by cases h⟩⟩;simp only[ek,if_false]at hb;exact⟨b,hb,zF _,fun _=>⟨rfl,fun l e sz st h=>⟨l,h⟩⟩⟩⟩,fun _ _ _ h=>h⟩;have hey:=ho.mo.ke.E he.bel he;have hfy:=ho.fr F hf;refine⟨z,fun m w hf=>bT.refl hf,rfl,⟨fun k b hb=>?_,fun k k' b b' j hb cK=>?_,ho.h.bd⟩,fun j b O=>?_,fD.ke.E hey.bel hey,fun u v hb hr=>fD.ke u v (aC.bel u v (ho.mo.ke.le h0 u v hb hr)) (ho.mo.ke.le h0 u v hb hr)⟩;rw[EE]at hb;by_cases ek:K=k;subst ek;simp only[if_true,zA]at hb;subst hb;obtain⟨h1,k1,j,l',e1,e2,e3⟩:=ho.h.ok K _ OW;refine⟨h1,?_,j,l',e1,e2,?_⟩;refine(KW _).2 fun u hu=>?_;rcases List.mem_or_eq_of_mem_set hu with h |h
 exact(KW q).1 k1 u h;subst h;rfl;obtain⟨v,h3,h4⟩:=e3.get hi;simp only[aC]at h4;subst h4;have:=e3.set i (n? (x:=x) (e:=e) (sz:=sz) (o:=none) qq4);rw[qwk h3]at this;exact fD.ke.E this.bel this;simp only[ek,if_false]at hb;obtain⟨h1,h2⟩:=ho.h.ok k b hb;exact⟨h1,h2.mono fD rfl fun _ _ _ h=>h⟩;have old:∀k b,gt z.Y.h k=some b->∃c,gt y.Y.h k=some c:=fun k b hb=>by rw[EE]at hb;by_cases ek:K=k;subst ek;exact⟨_,OW⟩;simp only[ek,if_false]at hb;exact⟨b,hb⟩
 obtain⟨c,hc⟩:=old k b hb;obtain⟨c',oT⟩:=old k' b' cK;exact ho.h.inj k k' c c' j hc oT;obtain⟨h1,h2⟩:=hfy j b O;refine⟨h1,fun k c hc=>?_⟩;rw[EE]at hc;by_cases ek:K=k;subst ek;exact h2 _ _ OW;simp only[ek,if_false]at hc;exact h2 k c hc
def mC(k:IntKind)(x:Int):(cI k x).length=1:=rfl
def N6(x:X Yv):(cS x).length=1:=rfl
def RJ{v12:Type}(c:v12->X U)(x:X v12):(cL c x).length=1:=rfl
section
variable{T:Tb}{Y Y':Sg}{n:Nat}{l:X (Nat×U)}{u v w:U}
def z8k{a b:X Yv}(h:a.length+b.length<=9223372036854775807):GJ .add ⟨⟨a⟩⟩ ⟨⟨b⟩⟩=some (.string ⟨(a++b).toArray⟩):=by
 have:¬ (((a.length+b.length:Nat):Int)>9223372036854775807):=by omega
 simp only[GJ,this,if_false]
end
def aW.post{P:DC}{f:FuncId}{args:X U}{Y:Sg}{R R':U->Sg->Prop}(h:aW P f args Y R)(hg:∀u Y1,R u Y1->∃u' Y2,Y.nx<=Y2.nx/\Gh Y.nx [u] Y1 [u'] Y2/\R' u' Y2):aW P f args Y R':=fun F x vs m w cargs hx hh fG he dV cC=>by
 refine(h F x vs m w cargs hx hh fG he dV cC).mono ?_;rintro e w₁ ⟨y,aL,u,v,cv,h1,h2,h3,h4,h5,h6,h7,h8,h9⟩;obtain⟨u',Y2,g1,g2,g3⟩:=hg u y.Y h2;obtain⟨z,z1,z2,z3,z4,z5,z6⟩:=g2 F y [v] rfl h5 h6 (bA.cons h7 (bA.nil y));obtain⟨v0,zl,e0,z7,_⟩:=z5.inv;cases e0;have eO:=z1 aL w₁ h3.fits;exact⟨z,aL,u',v,cv,h1,z2 ▸ g3,h3.trans eO,h4.ext (aN.refl _ _) eO.nx,z3,z4,z7,by rw[hx]at h8 ⊢;exact h8.trans z6,by rw[hx,z2];exact g1⟩
mutual
def nk(Z:Nat->Nat):(u:U)->aT 0 u->rU Z u=u
 |.ptr k _ _,h=>by simp[aT]at h
 |.sl k _ _ _,h=>by simp[aT]at h
 |.vl k _ _ _,h=>by simp[aT]at h
 |.map k,h=>by simp[aT]at h
 |.iptr l,h=>by simp only[aT]at h;simp[rU,L0 Z l h]
 |.isl t l,h=>by simp only[aT]at h;simp[rU,j_ Z l h]
 |.fn f a b,h=>by simp only[aT]at h;simp[rU,L0 Z a h.1,L0 Z b h.2]
 |.agg l,h=>by simp only[aT]at h;simp[rU,L0 Z l h]
 |.tup l,h=>by simp only[aT]at h;simp[rU,L0 Z l h]
 |.junk,_=>rfl|.bool _,_=>rfl
 |.int _ _,_=>rfl|.str _,_=>rfl
 |.nilp,_=>rfl|.nils,_=>rfl
 |.nilm,_=>rfl|.nilf,_=>rfl
 |.nili,_=>rfl
def L0(Z:Nat->Nat):(l:X U)->aG 0 l->fB Z l=l
 |[],_=>rfl|u::l,h=>by simp only[aG]at h;simp[fB,nk Z u h.1,L0 Z l h.2]
def j_(Z:Nat->Nat):(l:X (X U))->kJ 0 l->tK Z l=l
 |[],_=>rfl|c::l,h=>by simp only[kJ]at h;simp[tK,L0 Z c h.1,j_ Z l h.2]
end
section
variable{P:DC}{T:Tb}{aA r:X Oper}{o:Oper}{n:Nat}{l:X (Nat×U)}{Y:Sg}{K:X U->Sg->Prop}
def nF{C:PG}{f:FuncId}{args:X U}{R:U->Sg->Prop}(hw:c8 aA (fr n l) o=some true)(hc:jO T (fr n l) o.op=some (f,args))(jJ:aW C.prog f args Y R){d:Tmp}(he:o.dst=some d)(hd:Nat.blt d n=true)(hk:∀u Y',R u Y'->RU C T aA r (fr n ((d,u)::l)) Y' K):RU C T aA (o::r) (fr n l) Y K :=
 RU.call hw hc jJ (fun u Y' h=>by rw[he,sG (d:=some d) u hd];exact hk u Y' h)
end
section
variable{Q:Exit->X U->Sg->Prop}{K:X U->Sg->Prop}{tm:X U}{Y:Sg}{i j n0:Nat}{E:X U->Sg->Prop}
def q1(h:K tm Y):yF K Q .normal tm Y:=h
def q2(h:Q (.exit i) tm Y):yF K Q (.exit i) tm Y:=h
def q3(h:Q .ret tm Y):yF K Q .ret tm Y:=h
def q4(h:Q .normal tm Y):uD i Q .normal tm Y:=h
def q5(h:Q .ret tm Y):uD i Q .ret tm Y:=h
def q6(h:Q .normal tm Y):uD i Q (.exit i) tm Y:=Uo h
def q7(nZ:¬ j=i)(h:Q (.exit j) tm Y):uD i Q (.exit j) tm Y:=Un nZ h
def q8(h:∃tm' Y',E tm' Y'/\n0<=Y'.nx/\Gh n0 tm Y tm' Y'):AG n0 E Q .normal tm Y:=h
def q9(h:Q .ret tm Y):AG n0 E Q .ret tm Y:=h
def q0(h:Q (.exit i) tm Y):AG n0 E Q (.exit i) tm Y:=h
end
def Hx(p:Nat->PE):∀(h:X (Nat×B))(k:Nat),gt (h.filter fun x=>p x.1) k=if p k then gt h k else none
 |[],k=>by simp[gt]
 |(j,b)::h,k=>by
  rw[List.filter_cons];cases hp:p j with
  |true=>simp only[if_true,aP,Hx p h k];by_cases e:j=k;subst e;simp[hp];simp[e]|false=>simp only[Bool.false_eq_true,if_false,Hx p h k,aP];by_cases e:j=k;subst e;simp[hp];simp[e]
def Gh.only{n0:Nat}{tm:X U}{Y:Sg}(p:Nat->PE):Gh n0 tm Y tm ⟨Y.h.filter fun x=>p x.1,Y.nx⟩:=fun F x tv hx hr hf he=>by
 subst hx;have mo:∀n,Mo n x ⟨x.I,⟨x.Y.h.filter fun y=>p y.1,x.Y.nx⟩,x.s⟩:=fun n=>⟨fun k _ h2=>⟨h2,fun b' cK=>by simp only[Hx]at cK;split at cK;exact⟨b',cK,zF _,fun _=>⟨rfl,fun l e sz st h=>⟨l,h⟩⟩⟩;cases cK⟩,fun _ _ _ h=>h⟩;refine⟨⟨x.I,⟨x.Y.h.filter fun y=>p y.1,x.Y.nx⟩,x.s⟩,fun m w hf=>bT.refl hf,rfl,⟨?_,?_,hr.bd⟩,?_,he.mono (mo _) he.bel,fun u v hb hv=>aC.mono (mo _) u v (aC.bel u v hv) hv⟩;intro k b hb;simp only[Hx]at hb;split at hb;obtain⟨h1,h2⟩:=hr.ok k b hb;exact⟨h1,h2.mono (mo _) rfl (fun i c _ h=>h)⟩;cases hb;intro k k' b b' i hb cK h1 h2;simp only[Hx]at hb cK;split at hb;split at cK;exact hr.inj k k' b b' i hb cK h1 h2;cases cK;cases hb;intro i b O;obtain⟨h1,h2⟩:=hf i b O;refine⟨h1,fun k c hc=>?_⟩;simp only[Hx]at hc;split at hc;exact h2 k c hc;cases hc
def i9{v12:Type}(l:X v12)(off n:Nat)(i:Int):V v12:=if 0<=i/\i<(n:Int)then l[off+i.toNat]? else none
variable{v12:Type}
variable{off:Nat}
variable{i:Int}
variable{x:v12}
def S0{l:X v12}{n:Nat}(h:i9 l off n i=some x):0<=i/\i<(n:Int)/\l[off+i.toNat]? = some x:=by unfold i9 at h;split at h;rename_i hi;exact⟨hi.1,hi.2,h⟩;cases h
section
variable{v12:Type}{c:v12->X U}{sz:Nat}(hc:∀x,(c x).length=sz)
include hc
def ot{xs:X v12}{j:Nat}{x:v12}(h:xs[j]? = some x):kY (xs.map c).flatten (j*sz) sz=some (c x):=by
 have hj:=(zG.1 h).1;unfold kY;rw[DQ hc,jy hc];have e:xs.drop j=x::xs.drop (j+1):=by rw[List.drop_eq_getElem_cons hj];congr;exact(zG.1 h).2
 rw[e,if_pos (by rw[<-Nat.succ_mul];exact Nat.mul_le_mul_right _ hj)];simp only[zQ,List.flatten_cons];have:=hc x;rw[<-this,List.take_left'];rfl
def r_{xs:X v12}{j:Nat}(h:j<xs.length)(x:v12):qT (xs.map c).flatten (j*sz) (c x)=some ((xs.set j x).map c).flatten:=by unfold qT;rw[DQ hc,hc,if_pos (by rw[<-Nat.succ_mul];exact Nat.mul_le_mul_right _ h),<-Nat.succ_mul,jy hc,qqt hc,List.set_eq_take_append_cons_drop,if_pos h];simp
end
section
variable{T:Tb}{Y Y':Sg}{n:Nat}{l:X (Nat×U)}{u v w:U}
variable{t:TypeId}
variable{e:TypeId}
variable{e':TypeId}
variable{sz:Nat}
variable{K:Nat}
variable{m:Nat}
variable{xs:X v12}
def TJ(c:v12->X U){st:Nat}{k:IntKind}(hd:T.und t=some (.slice e))(hs:cD T e=some sz)(hz:0<sz)(hc:∀x,(c x).length=sz)(hv:oA Y K st=some ((xs.map c).flatten,e',sz))(hx:i9 xs off m i=some x):C5 T Y t (.vl K st off m) (.int k i)=some (.ptr K st (off*sz+i.toNat*sz)):=by
 obtain⟨h1,h2,h3⟩:=S0 hx;have cR:¬ (xs.map c).flatten=[]:=fun h=>by have:=congrArg List.length h;rw[DQ hc]at this;have h4:=(zG.1 h3).1;have:=Nat.mul_pos (show 0<xs.length by omega) hz;simp at*;omega
 have hb:Nat.beq sz sz=true:=by simp[beq_eq]
 simp only[C5,hd,hs,hv,hb,zC,h1,h2,ne_eq,cR,not_false_eq_true,and_self,if_true]
def qxp{q:X U}{j:Nat}{u:U}(h:kY q j 1=some [u]):nth q j=some u:=by
 unfold kY at h;split at h;rename_i hj;simp only[zA]at h;rw[kK];have:((q.drop j).take 1)[0]? = some u:=by rw[h];rfl
 simpa using this;cases h
def tf(c:v12->X U){st:Nat}{y:v12}{o z:Xt}{cs:X U}{h':X (Nat×B)}(hs:cD T t=some sz)(hc:∀x,(c x).length=sz)(ho:bM n l o=some (.ptr K st (off*sz+i.toNat*sz)))(hz:bM n l z=some v)(BK:vC v=some cs)(hk:okL cs=true)(hl:Nat.beq cs.length sz=true)(hy:vY cs=c y)(hv:gt Y.h K=some (.vec (xs.map c).flatten e' sz st))(hx:i9 xs off m i=some x)(Ba:ug Y.h K (.vec ((xs.set (off+i.toNat) y).map c).flatten e' sz st)=h'):bI T Y (fr n l) (.store t o z)=some (.junk,⟨h',Y.nx⟩):=by
 subst Ba;have hb:Nat.beq st st=true:=by simp
 have hj:=(zG.1 (S0 hx).2.2).1;have hp:=r_ hc hj y;rw[Nat.add_mul]at hp;exact JZ rfl rfl (by simp only[qU,dQ ho,dQ hz,XZ,hs,BK,hl,hk,zC,cellsOf,hv,hb,EU,hy,hp,MY])
def AN(h:aB xs i=some x):i9 xs 0 xs.length i=some x:=by obtain⟨h1,h2,h3⟩:=NH h;unfold i9;rw[if_pos ⟨h1,h2⟩,Nat.zero_add];exact h3
def Ln(c:v12->X U){st a h q:Nat}{lo hi:V Value}(hd:T.und t=some (.slice e))(hs:cD T e=some sz)(hc:∀x,(c x).length=sz)(hv:oA Y K st=some ((xs.map c).flatten,e',sz))(hm:off+m<=xs.length)(hb:mV m m lo hi=some (a,h,q)):RB T Y t (.vl K st off m) lo hi=some (.vl K st (off+a) (h-a)):=by
 have b:Nat.beq sz sz=true:=by simp[beq_eq]
 have hl:(off+m)*sz<=(xs.map c).flatten.length:=by rw[DQ hc];exact Nat.mul_le_mul_right _ hm
 simp only[RB,hd,hs,hv,b,zC,hb,hl,if_true]
def Ac{st:Nat}{q:X U}(hd:T.und t=some (.slice e))(h:gt Y.h K=some (.vec q e' sz st)):w6 T Y t (.vl K st off m)=some (.int .i64 m):=by
 have b:Nat.beq st st=true:=by simp[beq_eq]
 simp only[w6,hd,live,h,B.st,b,zC]
def wb(c:v12->X U){st:Nat}(hc:∀x,(c x).length=sz)(hv:oA Y K st=some ((xs.map c).flatten,e,sz))(hm:off+m<=xs.length):uX Y sz (.vl K st off m)=some (((xs.drop off).take m).length,(((xs.drop off).take m).map c).flatten):=by
 have b:Nat.beq sz sz=true:=by simp[beq_eq]
 have hl:off*sz+m*sz<=(xs.map c).flatten.length:=by rw[DQ hc,<-Nat.add_mul];exact Nat.mul_le_mul_right _ hm
 have e1:((xs.drop off).take m).length=m:=by simp;omega
 simp only[uX,hv,b,zC,kY,hl,if_true,jy hc,qqt hc,e1]
end
class Lk(a b:Nat):Prop where
 h:a<b
instance{b:Nat}:Lk 0 (b+1):=⟨Nat.succ_pos _⟩
instance{a b:Nat}[q:Lk a b]:Lk (a+1) (b+1):=⟨Nat.succ_lt_succ q.h⟩
class BF{v12:Type}(c:v12->X U):Prop where
 h:∀n x,aG n (c x)
instance(k:IntKind):BF (cI k):=⟨fun n x=>xg n k x⟩
instance:BF cS:=⟨z71⟩
instance{v12:Type}(c:v12->X U)[q:BF c]:BF (cL c):=⟨fun n x=>Ey n (q.h n) x⟩
class BU(n:Nat)(u:U):Prop where
 h:aT n u
class m9(n:Nat)(l:X U):Prop where
 h:aG n l
instance(n:Nat):m9 n []:=⟨by simp[aG]⟩
instance(n:Nat)(u:U)(l:X U)[a:BU n u][b:m9 n l]:m9 n (u::l):=⟨by simp only[aG];exact⟨a.h,b.h⟩⟩
instance{v12:Type}(n:Nat)(c:v12->X U)(l:X v12)[q:BF c]:m9 n (l.map c).flatten:=⟨NK n (q.h n) l⟩
instance(n:Nat)(b:PE):BU n (.bool b):=⟨by simp[aT]⟩
instance(n:Nat)(k:IntKind)(z:Int):BU n (.int k z):=⟨by simp[aT]⟩
instance(n:Nat)(s:X Yv):BU n (.str s):=⟨by simp[aT]⟩
instance(n:Nat):BU n .nils:=⟨by simp[aT]⟩
instance(n k st off:Nat)[q:Lk k n]:BU n (.ptr k st off):=⟨by simp only[aT];exact q.h⟩
instance(n k off m c:Nat)[q:Lk k n]:BU n (.sl k off m c):=⟨by simp only[aT];exact q.h⟩
instance(n k st off m:Nat)[q:Lk k n]:BU n (.vl k st off m):=⟨by simp only[aT];exact q.h⟩
instance(n:Nat)(l:X U)[q:m9 n l]:BU n (.iptr l):=⟨by simp only[aT];exact q.h⟩
instance(n:Nat)(l:X U)[q:m9 n l]:BU n (.agg l):=⟨by simp only[aT];exact q.h⟩
instance(n:Nat)(l:X U)[q:m9 n l]:BU n (.tup l):=⟨by simp only[aT];exact q.h⟩
instance(n:Nat)(f:Fn)(a b:X U)[p:m9 n a][q:m9 n b]:BU n (.fn f a b):=⟨by simp only[aT];exact⟨p.h,q.h⟩⟩
instance{v12:Type}(n:Nat)(t:PE)(c:v12->X U)(l:X v12)[q:BF c]:BU n (.isl t (l.map c)):=⟨by simp only[aT];exact sJ c (q.h n) l⟩
instance(n:Nat)(t:PE):BU n (.isl t []):=⟨by simp[aT,kJ]⟩
class BS(n:Nat)(l:X (Nat×U)):Prop where
 h:BelS n l
instance(n:Nat):BS n []:=⟨by simp[BelS]⟩
instance(n i:Nat)(u:U)(l:X (Nat×U))[a:BU n u][b:BS n l]:BS n ((i,u)::l):=⟨by simp only[BelS];exact⟨a.h,b.h⟩⟩
class BFU{v12:Type}(f:v12->U):Prop where
 h:∀n x,aT n (f x)
class BB(n:Nat)(b:B):Prop where
 h:BelB n b
instance(n:Nat)(l:X U)(e:TypeId)[q:m9 n l]:BB n (.row l e):=⟨by simp only[BelB];exact q.h⟩
instance(n:Nat)(l:X U)(e:TypeId)(sz st:Nat)[q:m9 n l]:BB n (.vec l e sz st):=⟨by simp only[BelB];exact q.h⟩
class BH(n:Nat)(h:X (Nat×B)):Prop where
 h:F5 n h
instance(n:Nat):BH n []:=⟨by simp[F5]⟩
instance(n k:Nat)(b:B)(h:X (Nat×B))[p:BB n b][q:BH n h]:BH n ((k,b)::h):=⟨by simp only[F5];exact⟨p.h,q.h⟩⟩
variable{n0:Nat}
variable{Y:Sg}
def M8{n1 n:Nat}{l l':X (Nat×U)}{h':X (Nat×B)}(ht:qC l l')(hs:Vx.cut n1 Y.h=h')(h1:n0<=n1)(h2:n1<=Y.nx)[hb:BS n1 l'][hh:BH n1 h']:Gh n0 (fr n l) Y (fr n l') ⟨h',n1⟩:=Gh.toS ht (by rw[hs]) h1 h2 hb.h hh.h
variable{tm:X U}
def uT(u:U)(ht:tm=[u])[q:BU 0 u]:Gh 0 tm Y [u] ⟨[],0⟩:=by
 subst ht;refine Gh.to (n1:=0) [] rfl ?_ (zF _) (Nat.zero_le _) (by simp only[aG];exact⟨q.h,trivial⟩) (by simp[F5]);have:∀h:X (Nat×B),Vx.cut 0 h=[]:=by
  intro h;induction h with
  |nil=>rfl|cons x h ih=>obtain⟨k,b⟩:=x;simp only[Vx.cut,ih];rfl
 rw[this]
variable{P:DC}
variable{f:FuncId}
def aW.pure1C{args:X U}{u:U}(h:aW P f args ⟨[],0⟩ (fun u' _=>u'=u/\aT 0 u'))[q:m9 0 args](Y:Sg):aW P f args Y (fun u' Y'=>u'=u/\Y'=Y):=aW.pure1 h q.h Y
def G3{args args':X U}{u:U}(h:oU args args')(jJ:∀s,aW P f args' s (fun u' Y'=>u'=u/\Y'=s))(Y:Sg):aW P f args Y (fun u' Y'=>u'=u/\Y'=Y):=aW.ghost (Gh.wk h) (zF _) (jJ Y)
class Stp(A:Prop)(B:outParam Prop):Prop where
 h:B->A
section
variable{Q:Exit->X U->Sg->Prop}{K:X U->Sg->Prop}{tm:X U}{Y:Sg}{i j n0:Nat}{E:X U->Sg->Prop}
instance:Stp (yF K Q .normal tm Y) (K tm Y):=⟨q1⟩
instance:Stp (yF K Q (.exit i) tm Y) (Q (.exit i) tm Y):=⟨q2⟩
instance:Stp (yF K Q .ret tm Y) (Q .ret tm Y):=⟨q3⟩
instance:Stp (uD i Q .normal tm Y) (Q .normal tm Y):=⟨q4⟩
instance:Stp (uD i Q .ret tm Y) (Q .ret tm Y):=⟨q5⟩
instance:Stp (uD i Q (.exit i) tm Y) (Q .normal tm Y):=⟨q6⟩
instance:Stp (AG n0 E Q .normal tm Y) (∃tm' Y',E tm' Y'/\n0<=Y'.nx/\Gh n0 tm Y tm' Y'):=⟨q8⟩
instance:Stp (AG n0 E Q .ret tm Y) (Q .ret tm Y):=⟨q9⟩
end
variable{C:PG}
def sq{Q:Exit->X U->Sg->Prop}{p q:Code}(h:WPU C n0 p tm Y (yF (fun tm Y=>WPU C n0 q tm Y Q) Q)):WPU C n0 (.seq p q) tm Y Q:=WPU.seq h
section
variable{P:DC}{T:Tb}{aA r:X Oper}{n:Nat}{l:X (Nat×U)}{Y:Sg}{K:X U->Sg->Prop}{u:U}
def RS.mv{o:Oper}{x:Xt}(hw:c8 aA (fr n l) o=some true)(ho:o.op=.move x)(hx:bM n l x=some u){d:Tmp}(he:o.dst=some d)(hk:RU C T aA r (fr n ((d,u)::l)) Y K)(hd:Nat.blt d n=true:=by rfl):RU C T aA (o::r) (fr n l) Y K:=RS.op hw (by rw[ho];exact oD hx) he hd hk
def RS.as{o:Oper}{x:Xt}(hw:c8 aA (fr n l) o=some true)(ho:o.op=.assign x)(hx:bM n l x=some u){d:Tmp}(he:o.dst=some d)(hk:RU C T aA r (fr n ((d,u)::l)) Y K)(hd:Nat.blt d n=true:=by rfl):RU C T aA (o::r) (fr n l) Y K:=RS.op hw (by rw[ho];exact S_ hx) he hd hk
end
section
variable{P:DC}{T:Tb}{aA r:X Oper}{o:Oper}{n:Nat}{l:X (Nat×U)}{Y:Sg}{aZ:X RK}{K:X RK->X U->Sg->Prop}{u:U}
def RD.mv{x:Xt}(hw:c8 aA (fr n l) o=some true)(ho:o.op=.move x)(hx:bM n l x=some u){d:Tmp}(he:o.dst=some d)(hk:RH P T aA r (fr n ((d,u)::l)) Y ((1,⟨fr n l,o,u,false,false,Y,Y⟩)::aZ) K)(hd:Nat.blt d n=true:=by rfl):RH P T aA (o::r) (fr n l) Y aZ K:=RD.look hw (by rw[ho];exact oD hx) he hd hk
end
class ed(a b:Nat):Prop where
 h:¬ a=b
instance{b:Nat}:ed 0 (b+1):=⟨by omega⟩
instance{a b:Nat}[q:ed a b]:ed (a+1) (b+1):=⟨by have:=q.h;omega⟩
instance{Q:Exit->X U->Sg->Prop}{tm:X U}{Y:Sg}{i j:Nat}[h:ed j i]:Stp (uD i Q (.exit j) tm Y) (Q (.exit j) tm Y):=⟨q7 h.h⟩
def gq{A B:Prop}[s:Stp A B](h:B):A:=s.h h
def DV(T:Tb):X Field->V (X (Nat×Nat))
 |[]=>some []|f::fs=>match cD T f.type,DV T fs with
  |some n,some l=>some ((f.offset,n)::l)|_,_=>none
def z1h{T:Tb}:∀{fs:X Field}{pl:X (Nat×Nat)},DV T fs=some pl->H4 T fs=true/\∀i,KZ T fs i=nth pl i
 |[],pl,h=>by simp[DV]at h;subst h;exact⟨rfl,fun i=>rfl⟩
 |f::fs,pl,h=>by
  simp only[DV]at h;rcases h1:cD T f.type with _|n;simp[h1]at h;rcases h2:DV T fs with _|l;simp[h1,h2]at h;simp only[h1,h2,zA]at h;subst h;obtain⟨g1,g2⟩:=z1h h2;refine⟨by simp[H4,h1,g1],fun i=>?_⟩;cases i with
  |zero=>simp[KZ,nth,h1]|succ i=>exact g2 i
structure BdT(T:Tb)(t:TypeId)(zu:X U)(pl:X (Nat×Nat)):Prop where
 bd:∀{qs:X (Nat×U)}{cs:X U},qY (nth pl) zu qs=some cs->okL cs=true->Gt T t qs=some (.agg cs)
variable{t:TypeId}
variable{b:Nat}
variable{z:Value}
variable{zu:X U}
def vV{T:Tb}{fs:Zu Field}{a:Nat}{pl:X (Nat×Nat)}(hd:T.und t=some (.struct fs))(hi:T.inf t=some (a,b,z))(hz:pM z.cells.toList=some zu)(hp:DV T fs.toList=some pl):BdT T t zu pl:=⟨fun{qs cs} hf hk=>by
 obtain⟨g1,g2⟩:=z1h hp;have:KZ T fs.toList=nth pl:=funext g2;simp only[Gt,hi,hz,hd,g1,zC,this,hf,hk]⟩
section
variable{T:Tb}{Y Y':Sg}{n:Nat}{l:X (Nat×U)}{u v w:U}
variable{ps:Zu (Nat×Xt)}
variable{qs:X (Nat×U)}
variable{cs:X U}
def ab{pl:X (Nat×Nat)}(h:BdT T t zu pl)(he:BZ n l ps.toList=some qs)(hf:qY (nth pl) zu qs=some cs)(hk:okL cs=true):bI T Y (fr n l) (.build t ps)=some (.agg cs,Y):=YG he (h.bd hf hk)
variable{e:TypeId}
variable{sz:Nat}
def yJ{k:Nat}(hd:T.und t=some (.slice e))(hi:T.inf e=some (sz,b,z))(h:BZ n l ps.toList=some qs)(h1:Nat.ble (k*sz) 16777216=true)(h2:Nat.ble k 16777216=true)(h3:Nat.beq z.cells.toList.length sz=true)(hz:pM z.cells.toList=some zu)(hf:qY (fun i=>some (i*sz,sz)) (wD zu k) qs=some cs)(hk:okL cs=true):bI T Y (fr n l) (.buildSlice t k ps)=some (.sl Y.nx 0 k k,newU Y (.row cs e)):=Tg h (by simp only[Pp,hd,hi,h1,h2,h3,zC,hz,hf,hk])
def sX.bs{k:Nat}{rs:X (X U)}(hd:T.und t=some (.slice e))(hi:T.inf e=some (sz,b,z))(h:BZ n l ps.toList=some qs)(h1:Nat.ble (k*sz) 16777216=true)(h2:Nat.ble k 16777216=true)(h3:Nat.beq z.cells.toList.length sz=true)(hz:pM z.cells.toList=some zu)(hf:qY (fun i=>some (i*sz,sz)) (wD zu k) qs=some cs)(hk:okL cs=true)(hl:Nat.ble (k*sz) cs.length=true)(hr:bN sz k cs=rs)[hb:m9 0 cs]:sX P T (fr n l) (.buildSlice t k ps) (.isl false rs):=
 .inr ⟨k,sz,cs,e,fun Y=>yJ hd hi h h1 h2 h3 hz hf hk,zY hl,fun m _=>aG.le (Nat.zero_le _) _ hb.h,by rw[hr]⟩
variable{a:Int}
variable{k':IntKind}
def Ah(k:IntKind){b:Int}(h:¬ b<0):kB .shr k a k' b=some (.int k (a.fdiv (2^(min b.toNat k.bits)))):=by simp[kB,h]
def Ai(k:IntKind){b:Int}(h:¬ b<0):kB .shl k a k' b=some (.int k (k.wrap (a*2^(min b.toNat k.bits)))):=by simp[kB,h]
def Oe(c:v12->X U)(z:v12){x y:Xt}{k:IntKind}{by_:Nat}{zv:Value}(hx:bM n l x=some (.int k a))(hy:bM n l y=some (.int k' a))(hd:T.und t=some (.slice e))(hi:T.inf e=some (sz,by_,zv))(hz:pM zv.cells.toList=some zu)(hk:okL zu=true)(px:vY zu=c z)(hl:Nat.beq zv.cells.toList.length sz=true)(hr:0<=a/\by_*a.toNat<=281474976710656/\a<=281474976710656):bI T Y (fr n l) (.makeSlice t x y)=some (.sl Y.nx 0 a.toNat a.toNat,newU Y (.row ((List.replicate a.toNat z).map c).flatten e)):=by
 have Kb:wD (c z) a.toNat=((List.replicate a.toNat z).map c).flatten:=by simp[wD]
 refine Tf hx hy ?_;simp only[Lr,hd,hi,hz,hk,hl,zC,hr.1,hr.2.1,hr.2.2,Int.le_refl,and_self,if_true,px,Kb]
variable{K:Nat}
variable{m:Nat}
variable{xs:X v12}
def sW{q:Nat}{k:IntKind}(hd:T.und t=some (.slice e))(hs:cD T e=some sz)(hv:live Y K 0=true)(hx:i9 xs 0 m i=some x):C5 T Y t (.sl K 0 m q) (.int k i)=some (.ptr K 0 (0*sz+i.toNat*sz)):=by obtain⟨h1,h2,_⟩:=S0 hx;simp only[C5,hd,hs,hv,zC,h1,h2,and_self,if_true,Nat.zero_mul]
def C2(c:v12->X U){e':TypeId}{d:TypeDesc}{o:Xt}(f:v12->U)(hd:T.und t=some d)(ha:qE d=false)(hc:∀x,c x=[f x])(ho:bM n l o=some (.ptr K 0 (0*1+i.toNat*1)))(hv:gt Y.h K=some (.row (xs.map c).flatten e'))(hx:i9 xs 0 m i=some x):bI T Y (fr n l) (.load t o)=some (f x,Y):=by refine Q6 rfl ?_;have hb:Nat.beq 0 0=true:=rfl;have hg:=ot (c:=c) (sz:=1) (fun x=>by rw[hc];rfl) (S0 hx).2.2;rw[hc,Nat.add_mul]at hg;simp only[qX,dQ ho,cellsOf,hv,hb,zC,F6,hd,ha,zD,qxp hg]
def XT(c:v12->X U){e':TypeId}{y:v12}{o z:Xt}{h':X (Nat×B)}(hs:cD T t=some sz)(hc:∀x,(c x).length=sz)(ho:bM n l o=some (.ptr K 0 (0*sz+i.toNat*sz)))(hz:bM n l z=some v)(BK:vC v=some cs)(hk:okL cs=true)(hy:cs=c y)(hv:gt Y.h K=some (.row (xs.map c).flatten e'))(hx:i9 xs 0 m i=some x)(Ba:ug Y.h K (.row ((xs.set i.toNat y).map c).flatten e')=h'):bI T Y (fr n l) (.store t o z)=some (.junk,⟨h',Y.nx⟩):=by
 subst hy;subst Ba;have hb:Nat.beq 0 0=true:=rfl;have hb2:Nat.beq (c y).length sz=true:=by simp[hc]
 have hj:=(zG.1 (S0 hx).2.2).1;have hp:=r_ hc hj y;rw[Nat.add_mul,Nat.zero_add]at hp;exact JZ rfl rfl (by simp only[qU,dQ ho,dQ hz,XZ,hs,BK,hb2,hk,zC,cellsOf,hv,hb,EU,hp,MY])
def z7s{q:Nat}(hd:T.und t=some (.slice e))(h:live Y K 0=true):w6 T Y t (.sl K off m q)=some (.int .i64 m):=by simp only[w6,hd,h,zC]
def Gg{c:v12->X U}(hc:∀x,(c x).length=sz)(h:m=xs.length)(K:Nat)(e:TypeId):fz K (.row (xs.map c).flatten e) sz (.sl K 0 m m)=.isl false (xs.map c):=by
 subst h;have hl:0+xs.length*sz<=(xs.map c).flatten.length:=by rw[DQ hc];omega
 have hk:Nat.beq K K=true:=by simp
 simp only[fz,hk,zC,hl,if_true,List.drop_zero,qkz hc]
end
def aW.own1(c:v12->X U){ys:X v12}{e:TypeId}{sz:Nat}{a7:X U}[hc:BF c][ha:m9 0 a7]{k:Nat}
  (h:aW P f a7 ⟨[],0⟩ (fun u Y'=>∃t',u=.vl k t' 0 ys.length/\Y'=⟨[(k,.vec (ys.map c).flatten e sz t')],k+1⟩)) (Y:Sg) (K:Nat) (hK:Y.nx+k=K):
  aW P f a7 Y (fun u Y'=>∃t',u=.vl K t' 0 ys.length/\Y'=⟨(K,.vec (ys.map c).flatten e sz t')::Y.h,K+1⟩):=by
 subst hK;have CT:∀l:X v12,aG 0 (l.map c).flatten:=fun l=>NK 0 (hc.h 0) l;have h1:=aW.frame [] h Y qq4 qq4 ha.h (by intro k b hb;simp[gt]at hb);rw[L0 _ _ ha.h]at h1;refine aW.post h1 ?_;rintro u Y1 ⟨u0,o8,⟨t',rfl,rfl⟩,_,rfl,rfl⟩;refine⟨.vl (Y.nx+k) t' 0 ys.length,⟨(Y.nx+k,.vec (ys.map c).flatten e sz t')::Y.h,Y.nx+k+1⟩,by simp;omega,?_,t',rfl,rfl⟩;have hs:Xu [] Y ⟨[(k,.vec (ys.map c).flatten e sz t')],k+1⟩=⟨(Y.nx+k,.vec (ys.map c).flatten e sz t')::GZ [] Y.h,Y.nx+k+1⟩:=by simp[Xu,y7,nm,rB,L0 _ _ (CT ys)];omega
 rw[hs];have:=Gh.same (n0:=Y.nx) (tm:=[rU (nm [] Y.nx) (.vl k t' 0 ys.length)]) (Y:=⟨(Y.nx+k,.vec (ys.map c).flatten e sz t')::GZ [] Y.h,Y.nx+k+1⟩) ((Y.nx+k,.vec (ys.map c).flatten e sz t')::Y.h) (fun j=>by rw[aP,aP,Pi];by_cases hk:Y.nx+k=j<;>simp[hk]);exact this
def Gh.rowW{K:Nat}{q q':X U}{e:TypeId}(hg:gt Y.h K=some (.row q e))(hk:okL q'=true)(h:oU q q'):Gh n0 tm Y tm ⟨ug Y.h K (.row q' e),Y.nx⟩:=Gh.row hg hk fun x vs _ _ he=>⟨h.rel he.1,by rw[h.len];exact he.2⟩
end Go.Vx
namespace Go.Vx
open Go Go.Rx
structure MapL(K v08:Type) where
 es:X (K×v08×Nat)
 cl:Nat
section
variable{K v08:Type}(kU:K->U)(vU:v08->U)
def mE(e:K×v08×Nat):ME:=⟨kU e.1,vU e.2.1,e.2.2⟩
structure qh(T:Tb)(kt:TypeId)(eq:K->K->PE)(kV:K->Value):Prop where
 v:∀k,toV (kU k)=some (kV k)
 cmp:∀a b,eqv T 50 kt (kV a) (kV b)=some (eq a b)
 key:∀k,Tw T 50 kt (kV k)=true
 pl:∀k,plain (kV k)=true
 same:∀a b,eq a b=true->veq 50 (kV b) (kV a)=true
variable{kU vU}{T:Tb}{kt:TypeId}{eq:K->K->PE}{kV:K->Value}(hk:qh kU T kt eq kV)
include hk
variable{Y:Sg}{n:Nat}{l:X (Nat×U)}{r:Nat}{m:MapL K v08}{t et:TypeId}(hd:T.und t=some (.map kt et))(hg:gt Y.h r=some (.map (m.es.map (mE kU vU)) m.cl))
include hd hg
end
def z0r{T:Tb}{Y:Sg}{n:Nat}{l:X (Nat×U)}{t:TypeId}:bI T Y (fr n l) (.makeMap t none)=some (.map Y.nx,newU Y (.map [] 0)):=JZ rfl rfl rfl
def stF:X Nat->Nat->Nat
 |[],_=>0|a::_,0=>a
 |_::l,i+1=>stF l i
def pe:X Nat->Nat->PE
 |[],_=>true|a::l,nx=>cond (Q7 l a) false (cond (Nat.blt a nx) (pe l nx) false)
def z0n:∀{l:X Nat}{nx:Nat},pe l nx=true->l.Nodup/\∀k∈l,k<nx
 |[],nx,_=>⟨List.nodup_nil,fun k h=>by cases h⟩|a::l,nx,h=>by
  simp only[pe]at h;cases h1:Q7 l a with
  |true=>rw[h1]at h;cases h|false=>rw[h1,zD]at h;rcases h2:Nat.blt a nx with _|_;rw[h2]at h;cases h;rw[h2,zC]at h;obtain⟨q1,q2⟩:=z0n h;refine⟨List.nodup_cons.2 ⟨fun hm=>?_,q1⟩,fun k hk=>?_⟩;rw[(jn l a).2 hm]at h1;cases h1;rcases zI.1 hk with rfl |hk;exact zY h2;exact q2 k hk
def wo(N:Nat):X (Nat×B)->PE
 |[]=>true|(k,_)::h=>cond (Nat.blt k N) (wo N h) false
def JS(ns:X Nat)(nx:Nat)(h:X (Nat×B)):X (Nat×B)->Prop
 |[]=>True|(k,b)::r=>gt h (nm ns nx k)=some (rB (nm ns nx) b)/\JS ns nx h r
def z8j{ns:X Nat}{nx N:Nat}{h:X (Nat×B)}:∀{h0:X (Nat×B)},JS ns nx h h0->wo N h0=true->F5 N h0->∀k b,gt h0 k=some b->k<N/\BelB N b/\gt h (nm ns nx k)=some (rB (nm ns nx) b)
 |[],_,_,_,k,b,hg=>by cases hg
 |(j,c)::h0,hh,hk,hb,k,b,hg=>by simp only[JS]at hh;simp only[wo]at hk;rcases h2:Nat.blt j N with _|_;rw[h2]at hk;cases hk;rw[h2,zC]at hk;simp only[F5]at hb;simp only[gt,beq_eq]at hg;by_cases e:j=k;subst e;simp only[yC,zC,zA]at hg;subst hg;exact⟨zY h2,hb.1,hh.1⟩;simp only[e,yB,zD]at hg;exact z8j hh.2 hk hb.2 k b hg
def Gl(Z:Nat->Nat)(l:X U)[q:m9 0 l]:fB Z l=l:=L0 Z l q.h
def RT{v12:Type}(Z:Nat->Nat)(c:v12->X U)(l:X v12)[q:BF c]:tK Z (l.map c)=l.map c:=j_ Z _ (sJ c (q.h 0) l)
def wg{K v08:Type}(Z:Nat->Nat)(kU:K->U)(vU:v08->U)(es:X (K×v08×Nat))[p:BFU kU][q:BFU vU]:(es.map (mE kU vU)).map (rM Z)=es.map (mE kU vU):=by rw[List.map_map];refine List.map_congr_left fun e _=>?_;simp only[Function.comp,mE,rM,nk Z _ (p.h 0 _),nk Z _ (q.h 0 _)]
def K1(ns:X Nat)(nx N:Nat)(h:X (Nat×B)):X (Nat×B)->X (Nat×B)
 |[]=>h|(k,b)::r=>cond (Nat.blt k N) (ug (K1 ns nx N h r) (nm ns nx k) (rB (nm ns nx) b)) ((nm ns nx k,rB (nm ns nx) b)::K1 ns nx N h r)
def Q3(N:Nat)(h:X (Nat×B)):PE:=(List.range N).all fun k=>(gt h k).isSome
def qzq{ns:X Nat}{nx N:Nat}{h:X (Nat×B)}(hl:ns.length=N)(hi:∀i j,nm ns nx i=nm ns nx j->i=j)(CG:∀k,k<N->(gt h (nm ns nx k)).isSome=true)(gH:∀k,N<=k->gt h (nm ns nx k)=none):∀(r:X (Nat×B))(k:Nat),gt (K1 ns nx N h r) k=match gt (y7 ns nx r) k with
  |some b=>some b|none=>gt h k
 |[],k=>by simp[K1,y7,gt]
 |(j,b)::r,k=>by
  have ih:=qzq hl hi CG gH r;simp only[K1,y7,aP];cases hj:Nat.blt j N with
  |true=>
   have hjN:j<N:=zY hj;simp only[zC,bS];by_cases e:nm ns nx j=k;subst e;have hs:=CG j hjN;have:(gt (K1 ns nx N h r) (nm ns nx j)).isSome=true:=by rw[ih];split<;>simp_all
   rcases hg:gt (K1 ns nx N h r) (nm ns nx j)with _|c;rw[hg]at this;cases this;simp;simp[e,ih]
  |false=>simp only[zD,aP];by_cases e:nm ns nx j=k;simp[e];simp[e,ih]
def aW.st{P:DC}{f:FuncId}{args0 args:X U}{h0:X (Nat×B)}{N N1:Nat}{U0 U1:(Nat->Nat)->U}{h1:(Nat->Nat)->X (Nat×B)}{S1:(Nat->Nat)->Sg}(ns:X Nat){Y:Sg}
  (h:aW P f args0 ⟨h0,N⟩ (fun u Y'=>∃t:Nat->Nat,u=U0 t/\Y'=⟨h1 t,N1⟩)) [ha:m9 N args0] [hb:BH N h0]
  (hn:pe ns Y.nx=true:=by rfl) (hN:ns.length=N:=by rfl) (hk:wo N h0=true:=by rfl) (lU:Q3 N h0=true:=by rfl) (hal1:∀t,Q3 N (h1 t)=true:=by intro t;rfl)
  (hh:JS ns Y.nx Y.h h0:=by simp only[JS,gt,Nat.beq,zC,zD,nm,rB,Gl,fB,rU,RT,wg,and_true,true_and]<;>first |rfl |exact⟨rfl,trivial⟩|exact⟨rfl,rfl,trivial⟩|exact⟨rfl,rfl⟩)
  (cC:fB (nm ns Y.nx) args0=args:=by(simp only[nm,Gl,fB,rU,RT])<;>rfl)
  (hU:∀t,rU (nm ns Y.nx) (U0 t)=U1 t:=by(intro t;simp only[nm,Gl,fB,rU,RT])<;>rfl)
  (hS:∀t,(⟨K1 ns Y.nx N Y.h (h1 t),Y.nx+(N1-N)⟩:Sg)=S1 t:=by(intro t;simp only[K1,Nat.blt,Nat.ble,Nat.sub_self,Nat.add_zero,Nat.reduceAdd,Nat.reduceSub,ug,Nat.beq,zC,zD,nm,rB,Gl,fB,rU,RT,wg])<;>rfl):
  aW P f args Y (fun u Y'=>∃t:Nat->Nat,u=U1 t/\Y'=S1 t):=by
 subst hN;obtain⟨g1,g2⟩:=z0n hn;have lR:=z8j hh hk hb.h;have hi:∀i j,nm ns Y.nx i=nm ns Y.nx j->i=j:=fun i j h=>z7y g1 g2 h;have hA:∀{h:X (Nat×B)},Q3 ns.length h=true->∀k,k<ns.length->(gt h k).isSome=true:=fun{h} he k hk=>by unfold Q3 at he;rw[List.all_eq_true]at he;exact he k (List.mem_range.2 hk)
 have CG:∀k,k<ns.length->(gt Y.h (nm ns Y.nx k)).isSome=true:=fun k hk=>by have:=hA lU k hk;rcases hg:gt h0 k with _|b;rw[hg]at this;cases this;rw[(lR k b hg).2.2];rfl
 intro F x vs m w cargs hx hh' fG he dV uN;have gH:∀k,ns.length<=k->gt Y.h (nm ns Y.nx k)=none:=fun k hk=>by rcases hg:gt Y.h (nm ns Y.nx k)with _|b;rfl;have h2:=(hh'.ok (nm ns Y.nx k) b (by rw[hx];exact hg)).1;rw[hx,KQ ns Y.nx k hk]at h2;omega
 have h3:=aW.frame ns h Y g1 g2 ha.h lR;rw[cC]at h3;have h4:aW P f args Y (fun u Y'=>∃t:Nat->Nat,u=U1 t/\Y'=S1 t):=aW.post h3 ?_;exact h4 F x vs m w cargs hx hh' fG he dV uN;rintro u Y' ⟨u0,o8,⟨t,rfl,rfl⟩,pU,rfl,rfl⟩;refine⟨U1 t,S1 t,?_,?_,t,rfl,rfl⟩;rw[<-hS t];exact Nat.le_add_right _ _;rw[<-hS t,<-hU t];refine Gh.same (n0:=Y.nx) (tm:=[rU (nm ns Y.nx) (U0 t)]) (Y:=Xu ns Y ⟨h1 t,N1⟩) (K1 ns Y.nx ns.length Y.h (h1 t)) (fun k=>?_);show _=gt (y7 ns Y.nx (h1 t)++GZ ns Y.h) k;rw[qzq rfl hi CG gH,X_,Pi];cases hg:gt (y7 ns Y.nx (h1 t)) k with
 |some b=>rfl|none=>by_cases hkn:k∈ns;exfalso;obtain⟨j,hj,e⟩:=List.getElem_of_mem hkn;obtain⟨_,e2⟩:=GV ns Y.nx j hj;rw[e]at e2;rw[<-e2,oq hi]at hg;have:=hA (hal1 t) j hj;rcases Ku:gt (h1 t) j with _|c;rw[Ku]at this;cases this;rw[Ku]at hg;cases hg;rw[if_neg hkn]
end Go.Vx
