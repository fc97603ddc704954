import Derived.DataReads
import Derived.ChangeArms
import Derived.OpenShut
import Derived.ChangeSame
import Derived.Test.YtldlchbgolpkaaaGreatP8
set_option linter.all false
namespace Go.Vx
open Go Go.Rx
def qz7{v11 β:Type}{f:v11->V β}:∀{l:I v11}{r:I β},l.mapM f=some r->r.length=l.length/\∀(i:Nat)(a:v11),l[i]? = some a->∃b,r[i]? = some b/\f a=some b
 |[],r,h=>by simp at h;subst h;simp
 |a::l,r,h=>by
  simp[List.mapM_cons,bind,Option.bind]at h;rcases h1:f a with _|b;simp[h1]at h;simp[h1]at h;rcases h2:l.mapM f with _|r';simp[h2]at h;simp[h2,pure]at h;subst h;have⟨g1,g2⟩:=qz7 h2;refine⟨by simp[g1],fun i x hx=>?_⟩;cases i with
  |zero=>simp at hx;subst hx;exact⟨b,rfl,h1⟩|succ i=>simp at hx;simpa using g2 i x hx
def jk(W:World):∀(l:I U)(vs:I M),nY W l vs↔∀(i:Nat)(u:U),l[i]? = some u->∃v,vs[i]? = some v/\Rep W u v
 |[],vs=>by simp[nY]
 |u::us,[]=>by simp only[nY,false_iff];intro h;have⟨v,hv,_⟩:=h 0 u rfl;simp at hv
 |u::us,v::vs=>by
  simp[nY,jk W us vs];constructor;rintro⟨h1,h2⟩ i w hi;cases i with
  |zero=>simp at hi;subst hi;exact⟨v,rfl,h1⟩|succ i=>simp at hi;simpa using h2 i w hi
  intro h;refine⟨?_,fun i w hi=>by simpa using h (i+1) w (by simpa using hi)⟩;have⟨v',h1,h2⟩:=h 0 u rfl;simp at h1;subst h1;exact h2
def z5s{W:World}{sz:Nat}:∀{l:I (I U)}{vs:I M},(∀(i:Nat)(c:I U),l[i]? = some c->c.length=sz/\okL c=true/\nY W c (vs.drop (i*sz)))->NS W sz l vs
 |[],vs,h=>by simp[NS]
 |d::l,vs,h=>by simp[NS];have h0:=h 0 d rfl;refine⟨h0.1,h0.2.1,by simpa using h0.2.2,z5s fun i c hc=>?_⟩;have:=h (i+1) c (by simpa using hc);rw[List.drop_drop];rw[Nat.succ_mul,Nat.add_comm]at this;exact this
def Oq(P:Program):Nat->I Field->Nat->Bool
 |o,[],n=>Nat.beq o n|o,f::fs,n=>cond (Nat.beq f.offset o) (Oq P (o+P.cellsOf f.type) fs n) false
def XN(P:Program)(TS:I X)(t:X):Bool:=match P.underlying t with
 |some .bool=>true|some (.int _)=>true
 |some .string=>true|some (.slice e)=>cond (TS.any (Nat.beq e)) (Nat.blt 0 (P.cellsOf e)) false
 |some (.struct fs)=>cond (Oq P 0 fs.toList (P.cellsOf t)) (fs.toList.all fun f=>TS.any (Nat.beq f.type)) false|some (.array n e)=>cond (TS.any (Nat.beq e)) (Nat.beq (P.cellsOf t) (n*P.cellsOf e)) false
 |_=>false
def closedTS(P:Program)(TS:I X):Bool:=TS.all (XN P TS)
def iq{TS:I X}{e:X}(h:TS.any (Nat.beq e)=true):e∈TS:=by
 have⟨x,h1,h2⟩:=List.any_eq_true.1 h;have:e=x:=by simpa[beq_eq]using h2
 rw[this];exact h1
def qrl{W:World}{P:Program}{fuel:Nat}{cs:I M}:∀(fs:I Field)(o n:Nat),Oq P o fs n=true->n<=cs.length->
  (∀f∈fs,∃us,nY W us ((cs.drop f.offset).take (P.cellsOf f.type))/\us.length=((cs.drop f.offset).take (P.cellsOf f.type)).length/\okL us=true/\OfTy P fuel f.type us)->
  ∃us,nY W us (cs.drop o)/\us.length=n-o/\okL us=true/\o<=n/\∀f∈fs,o<=f.offset/\OfTy P fuel f.type ((us.drop (f.offset-o)).take (P.cellsOf f.type))
 |[],o,n,hc,hl,h=>by
  have:o=n:=by simpa[Oq,beq_eq]using hc
  subst this;exact⟨[],by simp[nY],by simp,rfl,zF _,by simp⟩
 |f::fs,o,n,hc,hl,h=>by
  simp only[Oq]at hc;obtain⟨h1,h2⟩:=MN hc;have ho:f.offset=o:=by simpa[beq_eq]using h1
  obtain⟨us,g1,g2,g3,g4,g5⟩:=qrl fs _ n h2 hl fun x hx=>h x (by simp[hx]);obtain⟨u0,k1,k2,k3,k4⟩:=h f (by simp);rw[ho]at k1 k2;have k5:u0.length=P.cellsOf f.type:=by rw[k2];simp;omega
  refine⟨u0++us,?_,by simp[k5,g2];omega,JE k3 g3,by omega,fun x hx=>?_⟩;rw[jk]at k1 g1 ⊢;intro i u hu;rw[List.getElem?_append]at hu;split at hu;rename_i aE;obtain⟨v,q1,q2⟩:=k1 i u hu;rw[List.getElem?_take]at q1;rw[k5]at aE;simp only[aE,if_true]at q1;exact⟨v,q1,q2⟩;rename_i aE;have⟨v,q1,q2⟩:=g1 _ u hu;rw[List.getElem?_drop]at q1 ⊢;exact⟨v,by rw[k5]at q1 aE;rw[show o+i=o+P.cellsOf f.type+(i-P.cellsOf f.type) by omega];exact q1,q2⟩;rcases zI.1 hx with rfl |hx;refine⟨by omega,?_⟩;rw[ho,Nat.sub_self,List.drop_zero,<-k5,List.take_left' rfl];exact k4;have⟨q1,q2⟩:=g5 x hx;refine⟨by omega,?_⟩;rw[show x.offset-o=u0.length+(x.offset-(o+P.cellsOf f.type)) by omega,List.drop_append,List.drop_of_length_le (by omega),List.nil_append,Nat.add_sub_cancel_left];exact q2
def qum{W:World}{P:Program}{fuel:Nat}{cs:I M}{e:X}{sz:Nat}:∀(n:Nat),n*sz<=cs.length->
  (∀i,i<n->∃us,nY W us ((cs.drop (i*sz)).take sz)/\us.length=((cs.drop (i*sz)).take sz).length/\okL us=true/\OfTy P fuel e us)->
  ∃us,nY W us cs/\us.length=n*sz/\okL us=true/\∀i,i<n->OfTy P fuel e ((us.drop (i*sz)).take sz)
 |0,hl,h=>⟨[],by simp[nY],by simp,rfl,by simp⟩|n+1,hl,h=>by
  rw[Nat.succ_mul]at hl;have⟨us,g1,g2,g3,g4⟩:=qum n (by omega) fun i hi=>h i (by omega);have⟨u0,k1,k2,k3,k4⟩:=h n (by omega);have k5:u0.length=sz:=by rw[k2];simp;omega
  refine⟨us++u0,?_,by rw[zU,g2,k5,Nat.succ_mul],JE g3 k3,fun i hi=>?_⟩;rw[jk]at k1 g1 ⊢;intro i u hu;rw[List.getElem?_append]at hu;split at hu;exact g1 i u hu;rename_i aE;have⟨v,q1,q2⟩:=k1 _ u hu;rw[List.getElem?_take]at q1;split at q1;rw[List.getElem?_drop]at q1;exact⟨v,by rw[g2]at q1 aE;rw[show i=n*sz+(i-n*sz) by omega];exact q1,q2⟩;cases q1;by_cases jD:i<n;have:=g4 i jD;have oN:i*sz+sz<=us.length:=by rw[g2,<-Nat.succ_mul];exact Nat.mul_le_mul_right _ jD
  rw[List.drop_append_of_le_length (by omega),List.take_append_of_le_length (by simp;omega)];exact this;have:i=n:=by omega
  subst this;rw[<-g2,List.drop_left' rfl,<-k5,List.take_length];exact k4
section
variable{H:Type}{enc:X×M->H}{P:Program}{W:World}{TS:I X}(Lc:closedTS P TS=true)
include Lc
omit Lc in
def oe{a:Addr}{n:Nat}{cs:I M}(hn:0<n)(h:W.cells? 0 a n=some cs):∃c e fr,a.spot=none/\W.heap[a.block]? = some (.cells c e fr)/\cs.length=n/\∀(k:Nat)(v:M),cs[k]? = some v->c.toList[a.off+k]? = some v:=by
 unfold World.cells? at h;simp[Nat.zero_le,if_true]at h;have⟨g1,g2⟩:=qz7 h;have⟨v0,k1,k2⟩:=g2 0 0 (by simp[hn]);have v6:a.spot=none:=by have:=World.cell?_spot k2;simpa[Addr.add]using this
 have hadd:∀k,a.add k=⟨a.block,a.off+k,none⟩:=fun k=>by have⟨b,o,sp⟩:=a;simp only at v6;subst v6;exact yH b o k
 rw[hadd]at k2;unfold World.cell? at k2;rcases hw:W.heap[a.block]? with _|o;simp[hw]at k2;cases o with
 |cells c e fr=>
  refine⟨c,e,fr,v6,rfl,by simpa using g1,fun k v hk=>?_⟩;have aE:k<n:=by have:=(zG.1 hk).1;rw[g1]at this;simpa using this
  have⟨v',q1,q2⟩:=g2 k k (by simp[aE]);rw[hk]at q1;cases q1;rw[hadd]at q2;simp[World.cell?,hw]at q2;simpa using q2
 |_=>simp[hw]at k2
def jh:∀(fuel:Nat)(t:X),t∈TS->∀(cs:I M)(x:DataW H×I MemPlace),DataW.trod enc P W 0 (fun _=>true) true fuel t cs=some x->∃us,nY W us cs/\us.length=cs.length/\okL us=true/\OfTy P fuel t us
 |0,t,ht,cs,x,h=>by simp[DataW.trod]at h
 |fuel+1,t,ht,cs,x,h=>by
  have pI:=List.all_eq_true.1 Lc t ht;unfold XN at pI;rcases hd:P.underlying t with _|d;simp[hd]at pI;cases d with
  |bool=>obtain⟨b,rfl,_⟩:=DataW.trod_bool hd h;exact⟨[.bool b],by simp[nY,Rep],rfl,rfl,by simp[OfTy,hd]⟩
  |int k=>obtain⟨n,rfl,_,Km⟩:=DataW.trod_int hd h;exact⟨[.int k n],by simp[nY,Rep],rfl,rfl,by simp[OfTy,hd,Km]⟩
  |string=>obtain⟨s,rfl,_,dS⟩:=DataW.trod_string hd h;refine⟨[.str s.data.toList],by simp[nY,Rep],rfl,rfl,?_⟩;simp only[OfTy,hd];exact⟨_,rfl,by simpa using dS⟩
  |slice e=>
   simp only[hd]at pI;obtain⟨S?,f0⟩:=MN pI;have he:=iq S?;have dS:0<P.cellsOf e:=JA f0;rcases DataW.trod_slice hd h with⟨rfl,_⟩|⟨a,len,cap,DZ,rest,n,cq,rfl,_,_,cg,hcm,bA,hel,v6,_⟩;refine⟨[.isl false []],by simp[nY,Rep],rfl,rfl,?_⟩;simp only[OfTy,hd];exact⟨[],rfl,by simp,by simp⟩;have hn:n=fuel:=by omega
   subst hn;have hX:cap<bY:=by unfold bY;unfold maxLen at hcm;omega
   have each:∀i,i<len->∃us,us.length=P.cellsOf e/\okL us=true/\OfTy P n e us/\∃c ty fr,a.spot=none/\W.heap[a.block]? = some (.cells c ty fr)/\nY W us (c.toList.drop (a.off+i*P.cellsOf e)):=by
    intro i hi;have h1:=hel i hi;have h2:DZ[i]? = some DZ[i]:=by simp[bA,hi]
    rw[h2]at h1;rcases hc:W.cells? 0 (a.add (i*P.cellsOf e)) (P.cellsOf e)with _|ci;simp[hc]at h1;simp only[hc,Option.bind_some]at h1;obtain⟨us,r1,r2,r3,r4⟩:=jh n e he ci _ h1;obtain⟨c,ty,fr,k1,k2,k3,k4⟩:=oe dS hc;have Bp:a.spot=none:=by
     have h3:=hel 0 (by omega);have h4:DZ[0]? = some (DZ[0]'(by omega)):=by simp[bA,show 0<len by omega]
     rw[h4]at h3;rcases KN:W.cells? 0 (a.add (0*P.cellsOf e)) (P.cellsOf e)with _|c0;rw[KN]at h3;cases h3;obtain⟨_,_,_,q1,_⟩:=oe dS KN;simpa[Addr.add]using q1
    have hadd:a.add (i*P.cellsOf e)=⟨a.block,a.off+i*P.cellsOf e,none⟩:=by obtain⟨b,o,sp⟩:=a;simp only at Bp;subst Bp;exact yH b o _
    rw[hadd]at k2 k4;refine⟨us,by rw[r2,k3],r3,r4,c,ty,fr,Bp,k2,?_⟩;rw[jk]at r1 ⊢;intro k u hu;obtain⟨v,q1,q2⟩:=r1 k u hu;exact⟨v,by rw[List.getElem?_drop];exact k4 k v q1,q2⟩
   have all:∀m,m<=len->∃l:I (I U),l.length=m/\∀(i:Nat)(us:I U),l[i]? = some us->us.length=P.cellsOf e/\okL us=true/\OfTy P n e us/\∃c ty fr,a.spot=none/\W.heap[a.block]? = some (.cells c ty fr)/\nY W us (c.toList.drop (a.off+i*P.cellsOf e)):=by
    intro m;induction m with
    |zero=>intro _;exact⟨[],rfl,by simp⟩|succ m ih=>
     intro hm;obtain⟨l,l1,l2⟩:=ih (by omega);obtain⟨us,Q?⟩:=each m (by omega);refine⟨l++[us],by simp[l1],fun i vs C5=>?_⟩;rw[List.getElem?_append]at C5;split at C5;exact l2 i vs C5;rename_i wQ;have:i=m:=by have:=(zG.1 C5).1;simp at this;omega
     subst this;rw[l1,Nat.sub_self]at C5;simp at C5;subst C5;exact Q?
   obtain⟨l,l1,l2⟩:=all len (zF _);refine⟨[.isl false l],?_,rfl,rfl,?_⟩;simp only[nY,and_true,Rep,true_and];by_cases NE:l=[];subst NE;simp at l1;subst l1;obtain⟨b,o,sp⟩:=a;rcases sp with _|p;exact .inr ⟨b,o,cap,rfl,hX,Nat.zero_le _,.inl rfl⟩;rcases Nat.eq_zero_or_pos cap with h0 |hp;subst h0;exact .inl ⟨rfl,.inr ⟨b,o,p,rfl⟩⟩;exfalso;obtain⟨s1,s2⟩:=v6 rfl;have h3:=s2 0 (by omega);have h4:rest[0]? = some (rest[0]'(by omega)):=by simp[s1,hp]
   rw[h4]at h3;rcases KN:W.cells? 0 (Addr.add ⟨b,o,some p⟩ ((0+0)*P.cellsOf e)) (P.cellsOf e)with _|c0;rw[KN]at h3;cases h3;obtain⟨_,_,_,q1,_⟩:=oe dS KN;simp[Addr.add]at q1;obtain⟨wg,P?⟩:∃wg,l[0]? = some wg:=by cases l with
    |nil=>exact absurd rfl NE|cons a l=>exact⟨a,rfl⟩
   obtain⟨_,_,_,c,ty,fr,UJ,hw,_⟩:=l2 0 wg P?;refine .inr ⟨a.block,a.off,cap,by obtain⟨b,o,sp⟩:=a;simp only at UJ;subst UJ;rw[l1],hX,by omega,.inr ⟨c,ty,fr,P.cellsOf e,hw,z5s fun i us hi=>?_⟩⟩;obtain⟨q1,q2,_,c',ty',fr',_,xQ,q3⟩:=l2 i us hi;rw[hw]at xQ;cases xQ;exact⟨q1,q2,by rw[List.drop_drop];exact q3⟩;simp only[OfTy,hd];refine⟨l,rfl,by omega,fun us Q?=>?_⟩;obtain⟨i,hi⟩:=List.mem_iff_getElem?.1 Q?;exact(l2 i us hi).2.2.1
  |struct fs=>
   simp only[hd]at pI;obtain⟨cz,cR⟩:=MN pI;obtain⟨xs,m,cq,_,hl,Bm,hf⟩:=DataW.trod_struct hd h;have hm:m=fuel:=by omega
   subst hm;obtain⟨us,g1,g2,g3,_,g5⟩:=qrl (W:=W) (P:=P) (fuel:=m) (cs:=cs) fs.toList 0 (P.cellsOf t) cz (by omega) fun f yY=>by
    obtain⟨i,hi⟩:=List.mem_iff_getElem?.1 yY;have h1:=hf i f (by simpa using hi);have h2:i<xs.length:=by rw[Bm];have:=(zG.1 hi).1;simpa using this
    rw[show xs[i]? = some xs[i] by simp[h2]]at h1;exact jh m f.type (iq (List.all_eq_true.1 cR f yY)) _ _ h1
   refine⟨us,by simpa using g1,by omega,g3,?_⟩;simp only[OfTy,hd];exact⟨by omega,fun f yY=>by simpa using(g5 f yY).2⟩
  |array n e=>
   simp only[hd]at pI;obtain⟨S?,iD⟩:=MN pI;have he:=iq S?;obtain⟨xs,m,cq,_,hl,Bm,hf⟩:=DataW.trod_array hd h;have hm:m=fuel:=by omega
   subst hm;have ed:P.cellsOf t=n*P.cellsOf e:=by simpa[beq_eq]using iD
   obtain⟨us,g1,g2,g3,g4⟩:=qum (W:=W) (P:=P) (fuel:=m) (cs:=cs) (e:=e) (sz:=P.cellsOf e) n (by omega) fun i hi=>by have h1:=hf i hi;rw[show xs[i]? = some xs[i] by simp[Bm,hi]]at h1;exact jh m e he _ _ h1
   refine⟨us,g1,by omega,g3,?_⟩;simp only[OfTy,hd];exact⟨by omega,g4⟩
  |_=>simp[hd]at pI
def OfArg(P:Program)(t:X)(u:U):Prop:=∃fuel us,OfTy P fuel t us/\match P.underlying t with
 |some (.struct _)=>u=.agg us|some (.array _ _)=>u=.agg us
 |_=>us=[u]
def OfArgs(P:Program):I X->I U->Prop
 |[],us=>us=[]|t::ts,us=>∃u Fs,us=u::Fs/\OfArg P t u/\OfArgs P ts Fs
def zb2{t:X}(ht:t∈TS){v:M}{d:DataW H}{ps:I MemPlace}{r:Reach}{b0:Nat}(eZ:Value.okWide P W r b0 t v)(h:DataW.Trod enc P W 0 (fun _=>true) true t v d ps):∃u,Rep W u v/\OfArg P t u:=by
 have⟨fuel,hf⟩:=h;have⟨us,h1,h2,h3,h4⟩:=jh Lc fuel t ht _ _ hf;have pI:=List.all_eq_true.1 Lc t ht;unfold XN at pI;have one:v.cells.toList=[v]->(match P.underlying t with
   |some (.struct _)=>False|some (.array _ _)=>False
   |_=>True)->∃u,Rep W u v/\OfArg P t u:=fun hc hm=>by
  rw[hc]at h1 h2
  match us,h2 with
  |[u],_=>simp[nY,and_true]at h1;refine⟨u,h1,fuel,[u],h4,?_⟩;split<;>simp_all
 have agg:(∃cs,v=.agg cs)->(match P.underlying t with
   |some (.struct _)=>True|some (.array _ _)=>True
   |_=>False)->∃u,Rep W u v/\OfArg P t u:=fun⟨cs,hc⟩ hm=>by
  subst hc;refine⟨.agg us,?_,fuel,us,h4,?_⟩;simp[Rep];exact⟨cs.toList,rfl,h1,h2,h3⟩;split<;>simp_all
 unfold Value.okWide at eZ;rcases hd:P.underlying t with _|dd;simp[hd]at pI;cases dd with
 |struct fs=>simp[hd]at eZ;have⟨cs,hc,_⟩:=eZ;exact agg ⟨cs,hc⟩ (by simp[hd])
 |array n e=>simp[hd]at eZ;have⟨cs,hc,_⟩:=eZ;exact agg ⟨cs,hc⟩ (by simp[hd])
 |bool=>refine one ?_ (by simp[hd]);simp[hd,Cell.okWide]at eZ;cases v<;>first |rfl |(simp[Cell.ok,hd]at eZ)
 |int k=>refine one ?_ (by simp[hd]);simp[hd,Cell.okWide]at eZ;cases v<;>first |rfl |(simp[Cell.ok,hd]at eZ)
 |string=>refine one ?_ (by simp[hd]);simp[hd,Cell.okWide]at eZ;cases v<;>first |rfl |(simp[Cell.ok,hd]at eZ)
 |slice e=>refine one ?_ (by simp[hd]);simp[hd,Cell.okWide]at eZ;cases v<;>first |rfl |(simp[Cell.ok,hd]at eZ)
 |_=>simp[hd]at pI
def args_rep:∀{ts:I X}{vs:I M}{ds:I (DataW H)}{ps:I MemPlace}{r:Reach}{b0:Nat},(∀t∈ts,t∈TS)->(∀(j:Nat) t v,ts[j]? = some t->vs[j]? = some v->Value.okWide P W r b0 t v)->DataW.TrodAll enc P W 0 (fun _=>true) true ts vs ds ps->
  ∃us,nY W us vs/\us.length=vs.length/\OfArgs P ts us
 |[],[],[],ps,r,b0,ht,eZ,h=>⟨[],by simp[nY],rfl,rfl⟩|t::ts,v::vs,d::ds,ps,r,b0,ht,eZ,h=>by have⟨p,q,h1,h2,_⟩:=h;have⟨u,g1,g2⟩:=zb2 Lc (ht t (by simp)) (eZ 0 t v rfl rfl) h1;have⟨us,k1,k2,k3⟩:=args_rep (fun x hx=>ht x (by simp[hx])) (fun j x y h3 h4=>eZ (j+1) x y (by simpa using h3) (by simpa using h4)) h2;exact⟨u::us,by simp[nY,g1,k1],by simp[k2],u,us,rfl,g2,k3⟩
 |[],_::_,_,ps,r,b0,ht,eZ,h=>by simp[DataW.TrodAll]at h
 |[],[],_::_,ps,r,b0,ht,eZ,h=>by simp[DataW.TrodAll]at h
 |_::_,[],_,ps,r,b0,ht,eZ,h=>by simp[DataW.TrodAll]at h
 |_::_,_::_,[],ps,r,b0,ht,eZ,h=>by simp[DataW.TrodAll]at h
end
def PX:V lU->V lU
 |some (.inl (l,e,1))=>some (.inl (l,e,1))|_=>none
def Fm(g:Nat->V lU):Hp->Hp
 |[]=>[]|(i,_)::h=>match g i with
  |some b=>(i,b)::Fm g h|none=>Fm g h
def z4f(g:Nat->V lU):∀(h:Hp)(i:Nat),lk (Fm g h) i=(match lk h i with |some _=>g i |none=>none)
 |[],i=>by simp[Fm,lk]
 |(j,b)::h,i=>by
  have ih:=z4f g h i;simp[Fm];cases hg:g j with
  |none=>simp[mZ];by_cases e:j=i;subst e;simp[if_true];rw[ih,hg];split<;>rfl;simp[e,if_false];exact ih|some c=>simp[mZ];by_cases e:j=i;subst e;simp[hg];simp[e,if_false];exact ih
def EM(s:S):S:=⟨Fm (fun i=>PX (lk s.h i)) s.h,s.nx⟩
def YQ(s:S)(i:Nat):lk (EM s).h i=PX (lk s.h i):=by simp[EM,z4f];rcases h:lk s.h i with _|b;rfl;simp
def Qh{o:V lU}{b:lU}(h:PX o=some b):o=some b/\∃l e,b=.inl (l,e,1):=by unfold PX at h;split at h;simp at h;subst h;exact⟨rfl,_,_,rfl⟩;cases h
def qrq(s:S):Less s (EM s):=⟨zF _,fun i b hb=>by rw[YQ]at hb;exact(Qh hb).1⟩
def bE.view{P:Program}{f:FuncId}{args args':I U}{O:Sg}{u:U}{v:M}(h:bE P f args ⟨[],0⟩ (fun u' _=>u'=u/\bC 0 u'))(ha:aL 0 args)(hu:toV u=some v)(C8:∀m,aI m v=v){O1:Sg}(hg:Gh 0 args' O args O1):bE P f args' O (fun u' O'=>u'=u/\O'=O):=fun F x vs m w bI hx hh mJ he fT dB=>by
 have⟨y1,a1,a2,a3,a4,a5,a6⟩:=hg F x vs hx hh mJ he;have jK:=a1 m w fT;have d9:=bQ.less jK.fits (qrq y1.s);have gD:Mo 0 y1 (cx (EM y1.s)):=⟨fun k hk=>by omega,fun i row e hl=>by show lk (EM y1.s).h i=_;rw[YQ,hl];rfl⟩;have eH:∀b,¬ RC m (EM y1.s) b:=fun b ⟨i,c,hc,ho,_⟩=>by rw[YQ]at hc;obtain⟨_,l,e,rfl⟩:=Qh hc;simp[Own]at ho
 refine(h (fun _ _=>False) (cx (EM y1.s)) vs m w bI rfl ⟨fun k b hb=>by simp[cx,gt]at hb,fun k k' b b' i hb=>by simp[cx,gt]at hb,fun i b hb=>?_⟩ (fun _ _ J=>J.elim) (gD.ke.E ha a5) d9.fits (dB.ext (aN.refl _ _) (Nat.le_trans jK.nx d9.nx))).mono ?_;have cV:lk (EM y1.s).h i=some b:=hb;rw[YQ]at cV;exact a3.bd i b (Qh cV).1;rintro e oA ⟨y2,FA,u',v',cv,rfl,⟨rfl,_⟩,aS,hO,_,_,DH,_,_⟩;have hv:=(AP u' v hu y2 v').1 DH;subst hv;have hcv:cv=v':=by rw[<-hO.at,C8]
 subst hcv;have yQ:∀b,b<w.heap.size->oA.heap[b]? = w.heap[b]?:=fun b aE=>aS.same b aE (eH b);refine⟨x,m,u',cv,cv,rfl,⟨rfl,hx⟩,⟨aN.refl _ _,zF _,fun m' dK=>?_,fun b h=>.inl h,fun b aE _=>yQ b aE,aS.size,aS.os,aS.tape,aS.output⟩,fun m' _=>C8 m',hh,mJ,(AP u' cv hu x cv).2 rfl,Ke.refl _ _,zF _⟩;have yY:=fT m' dK;exact⟨fun i b hb=>(yY.ok i b hb).world (yQ _ (yY.size hb)),yY.inj,yY.bd⟩
abbrev RK:=Nat×dR
def RH(P:Program)(T:Tb)(a9:I Oper):I Oper->I U->Sg->I RK->(I RK->I U->Sg->Prop)->Prop
 |[],tm,O,b7,K=>K b7 tm O|o::r,tm,O,b7,K=>(cM a9 tm o=some true/\∃u,bM T O tm o.op=some (u,O)/\RH P T a9 r (dZ tm o.dst u) O ((1,⟨tm,o,u,false,false,O,O⟩)::b7) K)\/ (cM a9 tm o=some true/\∃u O',bM T O tm o.op=some (u,O')/\RH P T a9 r (dZ tm o.dst u) O' ((3,⟨tm,o,u,true,true,O,O'⟩)::b7) K)\/ (cM a9 tm o=some true/\∃f args u,kH T tm o.op=some (f,args)/\bE P f args O (fun u' O'=>u'=u/\O'=O)/\RH P T a9 r (dZ tm o.dst u) O ((2,⟨tm,o,u,true,false,O,O⟩)::b7) K)\/ (cM a9 tm o=some true/\∃f args u O',kH T tm o.op=some (f,args)/\bE P f args O (fun u' s'=>u'=u/\s'=O')/\RH P T a9 r (dZ tm o.dst u) O' ((3,⟨tm,o,u,true,true,O,O'⟩)::b7) K)\/ (cM a9 tm o=some false/\RH P T a9 r (dZ tm o.dst (.tup [])) O ((0,⟨tm,o,.tup [],false,false,O,O⟩)::b7) K)\/ (cM a9 tm o=some true/\∃u,AL P T tm o.op u/\RH P T a9 r (dZ tm o.dst u) O ((0,⟨tm,o,u,false,false,O,O⟩)::b7) K)\/ (cM a9 tm o=some true/\∃u1 s1 d u O',bM T O tm o.op=some (u1,s1)/\o.dst=some d/\d<tm.length/\Gh s1.nx [u1] s1 [u] O'/\s1.nx<=O'.nx/\RH P T a9 r (dZ tm o.dst u) O' ((3,⟨tm,o,u,true,true,O,O'⟩)::b7) K)
def kindOk(T:Tb)(a9:I Oper)(x:RK):Prop :=
 (x.1=0/\(cM a9 x.2.tm x.2.o=some false\/bM T x.2.s x.2.tm x.2.o.op≠some (x.2.u,x.2.s'))/\x.2.act=false/\x.2.mv=false)\/(x.1=1/\x.2.act=false/\x.2.mv=false)\/(x.1=2/\x.2.act=true/\x.2.mv=false)\/(x.1=3/\x.2.act=true/\x.2.mv=true)
def RD.mono{P:Program}{T:Tb}{a9:I Oper}:∀{rest:I Oper}{tm:I U}{O:Sg}{K K':I dR->I U->Sg->Prop},(∀rs tm O,K rs tm O->K' rs tm O)->RD P T a9 rest tm O K->RD P T a9 rest tm O K'
 |[],tm,O,K,K',hk,h=>hk _ _ _ h|o::rest,tm,O,K,K',hk,h=>by simp[RD]at h ⊢;rcases h with⟨hw,u,h1,h2⟩|⟨hw,u,O1,h1,h2⟩|⟨hw,f,args,u,h1,h2,h3⟩|⟨hw,f,args,u,O1,h1,h2,h3⟩|⟨hw,h1⟩|⟨hw,u,h1,h3⟩|⟨hw,u1,s1,d,u,O1,h1,h2,h3,h4,h5,h6⟩;exact .inl ⟨hw,u,h1,RD.mono (fun _ _ _ h=>hk _ _ _ h) h2⟩;exact .inr (.inl ⟨hw,u,O1,h1,RD.mono (fun _ _ _ h=>hk _ _ _ h) h2⟩);exact .inr (.inr (.inl ⟨hw,f,args,u,h1,h2,RD.mono (fun _ _ _ h=>hk _ _ _ h) h3⟩));exact .inr (.inr (.inr (.inl ⟨hw,f,args,u,O1,h1,h2,RD.mono (fun _ _ _ h=>hk _ _ _ h) h3⟩)));exact .inr (.inr (.inr (.inr (.inl ⟨hw,RD.mono (fun _ _ _ h=>hk _ _ _ h) h1⟩))));exact .inr (.inr (.inr (.inr (.inr (.inl ⟨hw,u,h1,RD.mono (fun _ _ _ h=>hk _ _ _ h) h3⟩)))));exact .inr (.inr (.inr (.inr (.inr (.inr ⟨hw,u1,s1,d,u,O1,h1,h2,h3,h4,h5,RD.mono (fun _ _ _ h=>hk _ _ _ h) h6⟩)))))
def RH.rd{P:Program}{T:Tb}{a9:I Oper}:∀{rest:I Oper}{tm:I U}{O:Sg}{b7:I RK}{K:I RK->I U->Sg->Prop},RH P T a9 rest tm O b7 K->
  RD P T a9 rest tm O (fun rs tm' O'=>∃ks:I RK,ks.map (·.2)=rs/\(∀x∈ks,kindOk T a9 x)/\K (ks.reverse++b7) tm' O')
 |[],tm,O,b7,K,h=>⟨[],rfl,by simp,h⟩|o::rest,tm,O,b7,K,h=>by
  have step:∀(k:RK),kindOk T a9 k->∀(rs:I dR)(tm':I U)(O':Sg),(∃ks:I RK,ks.map (·.2)=rs/\(∀x∈ks,kindOk T a9 x)/\K (ks.reverse++k::b7) tm' O')->
    ∃ks:I RK,ks.map (·.2)=k.2::rs/\(∀x∈ks,kindOk T a9 x)/\K (ks.reverse++b7) tm' O':=by
   rintro k hk rs tm' O' ⟨ks,h1,h2,h3⟩;refine⟨k::ks,by simp[h1],?_,by simpa using h3⟩;intro x hx;rcases zI.1 hx with rfl |hx;exact hk;exact h2 x hx
  simp only[RH]at h;simp only[RD];rcases h with⟨hw,u,h1,h2⟩|⟨hw,u,O1,h1,h2⟩|⟨hw,f,args,u,h1,h2,h3⟩|⟨hw,f,args,u,O1,h1,h2,h3⟩|⟨hw,h1⟩|⟨hw,u,h1,h3⟩|⟨hw,u1,s1,d,u,O1,h1,h2,h3,h4,h5,h6⟩;exact .inl ⟨hw,u,h1,RD.mono (step (1,_) (.inr (.inl ⟨rfl,rfl,rfl⟩))) (RH.rd h2)⟩;exact .inr (.inl ⟨hw,u,O1,h1,RD.mono (step (3,_) (.inr (.inr (.inr ⟨rfl,rfl,rfl⟩)))) (RH.rd h2)⟩);exact .inr (.inr (.inl ⟨hw,f,args,u,h1,h2,RD.mono (step (2,_) (.inr (.inr (.inl ⟨rfl,rfl,rfl⟩)))) (RH.rd h3)⟩));exact .inr (.inr (.inr (.inl ⟨hw,f,args,u,O1,h1,h2,RD.mono (step (3,_) (.inr (.inr (.inr ⟨rfl,rfl,rfl⟩)))) (RH.rd h3)⟩)));exact .inr (.inr (.inr (.inr (.inl ⟨hw,RD.mono (step (0,_) (.inl ⟨rfl,.inl hw,rfl,rfl⟩)) (RH.rd h1)⟩))));exact .inr (.inr (.inr (.inr (.inr (.inl ⟨hw,u,h1,RD.mono (step (0,_) (.inl ⟨rfl,.inr (h1.noop _),rfl,rfl⟩)) (RH.rd h3)⟩)))));exact .inr (.inr (.inr (.inr (.inr (.inr ⟨hw,u1,s1,d,u,O1,h1,h2,h3,h4,h5,RD.mono (step (3,_) (.inr (.inr (.inr ⟨rfl,rfl,rfl⟩)))) (RH.rd h6)⟩)))))
def allI{v11:Type}(p:Nat->v11->Bool):Nat->I v11->Bool
 |_,[]=>true|b,x::l=>p b x&&allI p (b+1) l
def Pg{v11:Type}{p:Nat->v11->Bool}:∀{b:Nat}{l:I v11},allI p b l=true->∀{j:Nat}{x:v11},l[j]? = some x->p (b+j) x=true
 |b,[],_,j,x,hx=>by simp at hx
 |b,y::l,h,j,x,hx=>by
  simp[allI,Bool.and_eq_true]at h;cases j with
  |zero=>simp at hx;subst hx;exact h.1|succ j=>
   simp[zH]at hx;have:=Pg h.2 hx
   rwa [show b+1+j=b+(j+1) by omega]at this
def Bf(k:Nat):Nat:=cond (Nat.beq k 3) 1 0
def trip:Nat->I Nat->I Nat->I (Nat×Nat×Nat)
 |c,k::ks,m::ms=>(k,m,c)::trip (c+Bf k) ks ms|_,_,_=>[]
def lE:I Nat->Nat
 |[]=>0|k::ks=>Bf k+lE ks
def fj:∀(ks ms:I Nat)(c j k m:Nat),ks[j]? = some k->ms[j]? = some m->(trip c ks ms)[j]? = some (k,m,c+lE (ks.take j))
 |[],_,c,j,k,m,h,_=>by simp at h
 |_::_,[],c,j,k,m,_,h=>by simp at h
 |k0::ks,m0::ms,c,0,k,m,h1,h2=>by simp at h1 h2;subst h1;subst h2;simp[trip,lE]
 |k0::ks,m0::ms,c,j+1,k,m,h1,h2=>by simp[zH]at h1 h2;simp[trip,zH,List.take_succ_cons,lE];rw[fj ks ms _ j k m h1 h2];simp[Nat.add_assoc]
def FC(i k:Nat):I (Nat×Nat)->Bool
 |[]=>false|p::l=>(Nat.beq i p.1&&Nat.beq k p.2)||FC i k l
def Pe{i k:Nat}:∀{l:I (Nat×Nat)},FC i k l=true->(i,k)∈l
 |[],h=>by simp[FC]at h
 |p::l,h=>by simp only[FC,Bool.or_eq_true,Bool.and_eq_true]at h;rcases h with⟨h1,h2⟩|h;rw[Nat.eq_of_beq_eq_true h1,Nat.eq_of_beq_eq_true h2];simp;exact List.mem_cons_of_mem _ (Pe h)
def PU(pr:I (Nat×Nat))(i:Nat)(a:Nat×Nat×Nat)(k:Nat)(b:Nat×Nat×Nat):Bool :=
 cond (Nat.ble 2 b.1) (cond (Nat.ble 2 a.1) (cond (Nat.blt k i) (Nat.testBit a.2.1 k) true) (cond (Nat.beq a.1 1) (cond (Nat.blt k i) (Nat.testBit a.2.1 k||(Nat.beq b.2.2 a.2.2||FC i k pr)) (Nat.testBit b.2.1 i||(Nat.beq a.2.2 (b.2.2+Bf b.1)||FC i k pr)))
    true))
  true
def qb(a9:I Oper)(ks:I Nat)(pr:I (Nat×Nat)):Bool :=
 let L:=trip 0 ks (cP a9 [])
 allI (fun i a=>allI (fun k b=>PU pr i a k b) 0 L) 0 L
def Gc(T:Tb)(ks:I RK)(p:Nat×Nat):Prop:=match nth ks p.1,nth ks p.2 with
 |some r,some q=>cond (Nat.blt p.2 p.1) (bM T q.2.s r.2.tm r.2.o.op=some (r.2.u,q.2.s)) (bM T q.2.s' r.2.tm r.2.o.op=some (r.2.u,q.2.s'))|_,_=>False
def YJ(T:Tb)(ks:I RK):I (Nat×Nat)->Prop
 |[]=>True|p::l=>Gc T ks p/\YJ T ks l
def Ro{T:Tb}{ks:I RK}:∀{l:I (Nat×Nat)},YJ T ks l->∀p∈l,Gc T ks p
 |[],_,p,hp=>by cases hp
 |q::l,h,p,hp=>by rcases zI.1 hp with rfl |hp;exact h.1;exact Ro h.2 p hp
def qyl{ks:I Nat}:∀{q p:Nat},p<=q->q<=ks.length->lE (ks.take p)=lE (ks.take q)->∀(e k:Nat),p<=e->e<q->ks[e]? = some k->k≠3
 |q,p,HD,hq,h,e,k,h1,h2,h3=>by
  have mono:∀(l:I Nat)(a b:Nat),a<=b->lE (l.take a)<=lE (l.take b):=by
   intro l;induction l with
   |nil=>intro a b _;simp[lE]|cons x l ih=>
    intro a b uQ;cases a with
    |zero=>simp[lE]|succ a=>cases b with|zero=>omega|succ b=>simp[List.take_succ_cons,lE];have:=ih a b (by omega);omega
  have succ:∀(l:I Nat)(a k:Nat),l[a]? = some k->lE (l.take (a+1))=lE (l.take a)+Bf k:=by
   intro l;induction l with
   |nil=>intro a k h;simp at h|cons x l ih=>
    intro a k h;cases a with
    |zero=>simp at h;subst h;simp[lE]|succ a=>simp[zH]at h;simp[List.take_succ_cons,lE];rw[ih a k h];omega
  intro hk;have a1:=mono ks p e h1;have a2:=succ ks e k h3;have a3:=mono ks (e+1) q (by omega);rw[hk]at a2;have:Bf 3=1:=rfl;omega
section
variable{C:PG}{T:Tb}(hT:lP C.prog T){n0:Nat}{Q:Exit->I U->Sg->Prop}{tm:I U}{O:Sg}
include hT
def WPU.drawE {id : Nat} {a9 : Array Oper} (pr : I (Nat × Nat)) (bZ : ML a9.toList = true)
    (h:RH C.prog T a9.toList a9.toList tm O [] (fun ks tm' O'=> qb a9.toList (ks.reverse.map (·.1)) pr=true/\YJ T ks.reverse pr/\Q .normal tm' O')):WPU C n0 (.region id a9 true) tm O Q:=by
  obtain⟨rs,tm',O',⟨ks,qR,DL,xS,tK,hQ⟩,g2,g3,g4,g5⟩:=S7 _ _ _ _ (RH.rd h);simp only[List.append_nil,List.reverse_reverse]at xS tK;have gC:Lm C.prog T a9.toList tm O rs tm' O':=⟨g2,g3,g4,fun i r hr=> by obtain⟨a,b,c,d,_⟩:=g5 i r hr;exact⟨a,b,c,d⟩⟩;have same : ∀(p q:Nat),p<=q->q<=rs.length->(∀(e:Nat)(r:dR),p<=e->e<q->rs[e]? = some r->r.mv=false)->fC rs O' p=fC rs O' q:=by
    intro p q HD hq eH;induction q with
    | zero => have : p = 0 := by omega
              rw[this]
    |succ q ih=>
      rcases Nat.lt_or_ge q p with h |h;have:p=q+1:=by omega
      rw[this];rw[ih h (by omega) fun e r h1 h2 h3=> eH e r h1 (by omega) h3];have hr:rs[q]? = some rs[q]:=by simp[show q<rs.length by omega]
      obtain⟨_,_,k3,_,k5,_⟩:=g5 q _ hr;rw[k3,k5 (eH q _ h (zN _) hr)];simp[fC,hr]
  have bA:ks.length=rs.length:=by rw[<-qR];simp
  have at_ : ∀(i:Nat)(r:dR),rs[i]? = some r->∃k,ks[i]? = some (k,r)/\kindOk T a9.toList (k,r):=by intro i r hr;rw[<-qR]at hr;simp only[List.getElem?_map]at hr;rcases hk:ks[i]? with _|x;rw[hk]at hr;simp at hr;obtain⟨k,r'⟩:=x;rw[hk]at hr;simp at hr;subst hr;exact⟨k,rfl,DL _ (zX hk)⟩
  have trp : ∀(i k:Nat)(r:dR),ks[i]? = some (k,r)->∃m,(cP a9.toList [])[i]? = some m/\(trip 0 (ks.map (·.1)) (cP a9.toList []))[i]? = some (k,m,lE ((ks.map (·.1)).take i)):=by
    intro i k r hk;obtain⟨m1,_,_⟩:=kj a9.toList [];have hi:i<a9.toList.length:=by rw[<-g2, <-bA];exact(zG.1 hk).1
    have hm:i<(cP a9.toList []).length:=by rw[m1];simpa using hi
    refine⟨(cP a9.toList [])[i],by simp[hm], ?_⟩;have:=fj (ks.map (·.1)) (cP a9.toList []) 0 i k _ (by simp[hk]) (show(cP a9.toList [])[i]? = some (cP a9.toList [])[i] by simp[hm])
    rwa [Nat.zero_add]at this
  have chk : ∀ (i k ki kk : Nat) (r q : dR), ks[i]? = some (ki, r) -> ks[k]? = some (kk, q) -> ∃ mi mk, (cP a9.toList [])[i]? = some mi /\ (cP a9.toList [])[k]? = some mk /\
      PU pr i (ki,mi,lE ((ks.map (·.1)).take i)) k (kk,mk,lE ((ks.map (·.1)).take k))=true:=by
    intro i k ki kk r q hi hk;obtain⟨mi,e1,e2⟩:=trp i ki r hi;obtain⟨mk,e3,e4⟩:=trp k kk q hk;refine⟨mi,mk,e1,e3, ?_⟩;have h1:=Pg xS e2;have h2:=Pg h1 e4;simpa using h2
  have nomv : ∀(p q:Nat),p<=q->q<=rs.length->lE ((ks.map (·.1)).take p)=lE ((ks.map (·.1)).take q)->fC rs O' p=fC rs O' q:=by
    intro p q HD hq hc;refine same p q HD hq fun e r h1 h2 h3=> ?_;obtain⟨k,hk,Wu⟩:=at_ e r h3;have:=qyl HD (by simp;omega) hc e k h1 h2 (by simp[hk]);rcases Wu with h |h |h |h
    exact h.2.2.2;exact h.2.2;exact h.2.2;exact absurd h.1 this
  have kact : ∀(i:Nat)(r:dR),rs[i]? = some r->r.act=true->∃k,ks[i]? = some (k,r)/\Nat.ble 2 k=true:=by intro i r hr ha;obtain⟨k,hk,Wu⟩:=at_ i r hr;refine⟨k,hk, ?_⟩;rcases Wu with h |h |h |h;have:=h.2.2.1;simp only[]at this;rw[ha]at this;cases this;have:=h.2.1;simp only[]at this;rw[ha]at this;cases this;have:=h.1;simp only[]at this;subst this;rfl;have:=h.1;simp only[]at this;subst this;rfl
  have kqu : ∀(i:Nat)(r:dR),rs[i]? = some r->r.act=false->cM a9.toList r.tm r.o=some true->bM T r.s r.tm r.o.op=some (r.u,r.s')->ks[i]? = some (1,r):=by intro i r hr ha hw hl;obtain⟨k,hk,Wu⟩:=at_ i r hr;rcases Wu with h |h |h |h;rcases h.2.1 with h' |h';simp only[]at h';rw[hw]at h';cases h';exact absurd hl h';have:=h.1;simp only[]at this;subst this;exact hk;have:=h.2.1;simp only[]at this;rw[ha]at this;cases this;have:=h.2.1;simp only[]at this;rw[ha]at this;cases this
  have succ : ∀(l:I Nat)(a k:Nat),l[a]? = some k->lE (l.take (a+1))=lE (l.take a)+Bf k:=by
    intro l;induction l with
    |nil=> intro a k h;simp at h|cons x l ih=>
      intro a k h;cases a with
      |zero=> simp at h;subst h;simp[lE]|succ a=> simp only[zH]at h;simp only[List.take_succ_cons,lE];rw[ih a k h];omega
  refine WPU.drawn hT bZ gC ⟨fun i k r q hr hq ha hb aE=> ?_,fun i k r q hr hq ha hw hl hb aE=> ?_,fun i k r q hr hq ha hw hl hb aE=> ?_⟩ (fun i r hr h=> (g5 i r hr).2.2.2.2.2 h) hQ;obtain⟨ki,h1,h2⟩:=kact i r hr ha;obtain⟨kk,h3,h4⟩:=kact k q hq hb;obtain⟨mi,mk,e1,e2,e3⟩:=chk i k ki kk r q h1 h3;simp only[PU,h2,h4,zC,pF aE]at e3;exact⟨mi,e1,e3⟩;have h1:=kqu i r hr ha hw hl;obtain⟨kk,h3,h4⟩:=kact k q hq hb;obtain⟨mi,mk,e1,e2,e3⟩:=chk i k 1 kk r q h1 h3;have wZ:Nat.ble 2 1=false:=rfl;have rK:Nat.beq 1 1=true:=rfl;simp only[PU,wZ,rK,h4,zC,zD,pF aE,Bool.or_eq_true]at e3;rcases e3 with e3 |e3 |e3;exact .inl ⟨mi,e1,e3⟩;have:=nomv k i (by omega) (by have:=(zG.1 hr).1;omega) (Nat.eq_of_beq_eq_true e3);exact .inr (.inl (by simpa[fC,hr,hq]using this));have:=Ro tK _ (Pe e3);simp only[Gc,jA,h1,h3,pF aE,zC]at this;exact .inr (.inr this);have h1:=kqu i r hr ha hw hl;obtain⟨kk,h3,h4⟩:=kact k q hq hb;obtain⟨mi,mk,e1,e2,e3⟩:=chk i k 1 kk r q h1 h3;have wZ:Nat.ble 2 1=false:=rfl;have rK:Nat.beq 1 1=true:=rfl;simp only[PU,wZ,rK,h4,zC,zD,H6 (show ¬ k<i by omega),Bool.or_eq_true]at e3;rcases e3 with e3 |e3 |e3;exact .inl ⟨mk,e2,e3⟩;have hc:lE ((ks.map (·.1)).take i)=lE ((ks.map (·.1)).take (k+1)):=by rw[succ _ k kk (by simp[h3])];exact Nat.eq_of_beq_eq_true e3
  have:=nomv i (k+1) (by omega) (by have:=(zG.1 hq).1;omega) hc;have h2:=(gC.all k q hq).2.2.1;rw[h2]at this;exact .inr (.inl (by simpa[fC,hr]using this.symm));have:=Ro tK _ (Pe e3);simp only[Gc,jA,h1,h3,H6 (show ¬ k<i by omega),zD]at this;exact .inr (.inr this)
end
def RH.call{P:Program}{T:Tb}{a9 r:I Oper}{o:Oper}{tm:I U}{O:Sg}{b7:I RK}{K:I RK->I U->Sg->Prop}{f:FuncId}{args:I U}{u:U}(hw:cM a9 tm o=some true)(hc:kH T tm o.op=some (f,args))(kI:bE P f args O (fun u' O'=>u'=u/\O'=O))
  (h:RH P T a9 r (dZ tm o.dst u) O ((2,⟨tm,o,u,true,false,O,O⟩)::b7) K):RH P T a9 (o::r) tm O b7 K:=.inr (.inr (.inl ⟨hw,f,args,u,hc,kI,h⟩))
def RH.callM{P:Program}{T:Tb}{a9 r:I Oper}{o:Oper}{tm:I U}{O O1:Sg}{b7:I RK}{K:I RK->I U->Sg->Prop}{f:FuncId}{args:I U}{u:U}(hw:cM a9 tm o=some true)(hc:kH T tm o.op=some (f,args))(kI:bE P f args O (fun u' O'=>u'=u/\O'=O1))
  (h:RH P T a9 r (dZ tm o.dst u) O1 ((3,⟨tm,o,u,true,true,O,O1⟩)::b7) K):RH P T a9 (o::r) tm O b7 K:=.inr (.inr (.inr (.inl ⟨hw,f,args,u,O1,hc,kI,h⟩)))
mutual
def rU(Z:Nat->Nat):U->U
 |.ptr k st off=>.ptr (Z k) st off|.sl k off n c=>.sl (Z k) off n c
 |.vl k st off n=>.vl (Z k) st off n|.map k=>.map (Z k)
 |.iptr l=>.iptr (jG Z l)|.isl t l=>.isl t (y4 Z l)
 |.fn f a b=>.fn f (jG Z a) (jG Z b)|.agg l=>.agg (jG Z l)
 |.tup l=>.tup (jG Z l)|u=>u
def jG(Z:Nat->Nat):I U->I U
 |[]=>[]|u::l=>rU Z u::jG Z l
def y4(Z:Nat->Nat):I (I U)->I (I U)
 |[]=>[]|c::l=>jG Z c::y4 Z l
end
def ER(Z:Nat->Nat):∀l,(jG Z l).length=l.length
 |[]=>rfl|u::l=>by simp[jG,ER Z l]
def Gt(Z:Nat->Nat):∀l,(y4 Z l).length=l.length
 |[]=>rfl|u::l=>by simp[y4,Gt Z l]
def Un(Z:Nat->Nat)(u:U):okC (rU Z u)=okC u:=by cases u<;>simp[rU,okC]
def IS(Z:Nat->Nat):∀l,okL (jG Z l)=okL l
 |[]=>rfl|u::l=>by simp[jG,okL,Un,IS Z l]
structure WF(n:Nat)(Z:Nat->Nat)(x y:Cx):Prop where
 ptr:∀k st off v,k<n->aD x (.ptr k st off) v->aD y (.ptr (Z k) st off) v
 sl:∀k off m c v,k<n->aD x (.sl k off m c) v->aD y (.sl (Z k) off m c) v
 vl:∀k st off m v,k<n->aD x (.vl k st off m) v->aD y (.vl (Z k) st off m) v
 map:∀k v,k<n->aD x (.map k) v->aD y (.map (Z k)) v
 imm:∀i row e,lk x.s.h i=some (.inl (row,e,1))->lk y.s.h i=some (.inl (row,e,1))
mutual
def aD.leaf{n:Nat}{Z:Nat->Nat}{x y:Cx}(h:WF n Z x y):(u:U)->(v:M)->bC n u->aD x u v->aD y (rU Z u) v
 |.junk,v,_,_=>by simp[rU,aD]
 |.bool b,v,_,hr=>by simpa[rU,aD]using hr
 |.int k z,v,_,hr=>by simpa[rU,aD]using hr
 |.str l,v,_,hr=>by simpa[rU,aD]using hr
 |.nilp,v,_,hr=>by simpa[rU,aD]using hr
 |.ptr k st off,v,hb,hr=>h.ptr k st off v (by simpa[bC]using hb) hr|.iptr l,v,hb,hr=>by simp only[rU,aD]at*;obtain⟨i,off,row,e,h1,h2,h3,h4⟩:=hr;exact⟨i,off,row,e,h1,h.imm _ _ _ h2,cU.leaf h l _ (by simpa[bC]using hb) h3,by rw[IS];exact h4⟩
 |.nils,v,_,hr=>by simpa[rU,aD]using hr
 |.sl k off m c,v,hb,hr=>h.sl k off m c v (by simpa[bC]using hb) hr|.vl k st off m,v,hb,hr=>h.vl k st off m v (by simpa[bC]using hb) hr
 |.isl t l,v,hb,hr=>by simp only[rU,aD]at*;rcases hr with⟨rfl,hr⟩|⟨i,off,c,h1,h2,h3⟩;exact .inl ⟨rfl,hr⟩;rw[Gt];refine .inr ⟨i,off,c,h1,h2,?_⟩;rcases h3 with rfl |⟨row,e,sz,g1,g2,g3⟩;exact .inl rfl;exact .inr ⟨row,e,sz,h.imm _ _ _ g1,iV.leaf h l _ (by simpa[bC]using hb) g2,g3⟩
 |.nilm,v,_,hr=>by simpa[rU,aD]using hr
 |.map k,v,hb,hr=>h.map k v (by simpa[bC]using hb) hr|.fn f a b,v,hb,hr=>by simp[rU,aD]at*;have⟨va,vb,h1,h2,h3,h4,h5⟩:=hr;simp[bC]at hb;exact⟨va,vb,h1,cU.leaf h a _ hb.1 h2,by rw[ER];exact h3,cU.leaf h b _ hb.2 h4,by rw[ER];exact h5⟩
 |.nilf,v,_,hr=>by simpa[rU,aD]using hr
 |.nili,v,_,hr=>by simpa[rU,aD]using hr
 |.agg l,v,hb,hr=>by simp[rU,aD]at*;have⟨vs,h1,h2,h3,h4⟩:=hr;exact⟨vs,h1,cU.leaf h l _ (by simpa[bC]using hb) h2,by rw[ER];exact h3,by rw[IS];exact h4⟩
 |.tup l,v,hb,hr=>by simp[rU,aD]at*;have⟨vs,h1,h2,h3⟩:=hr;exact⟨vs,h1,cU.leaf h l _ (by simpa[bC]using hb) h2,by rw[ER];exact h3⟩
def cU.leaf{n:Nat}{Z:Nat->Nat}{x y:Cx}(h:WF n Z x y):(l:I U)->(vs:I M)->aL n l->cU x l vs->cU y (jG Z l) vs
 |[],vs,_,_=>by simp[jG,cU]
 |u::l,[],_,hr=>by simp[cU]at hr
 |u::l,v::vs,hb,hr=>by simp[jG,cU,aL]at*;exact⟨aD.leaf h u v hb.1 hr.1,cU.leaf h l vs hb.2 hr.2⟩
def iV.leaf{n sz:Nat}{Z:Nat->Nat}{x y:Cx}(h:WF n Z x y):(l:I (I U))->(vs:I M)->mV n l->iV x sz l vs->iV y sz (y4 Z l) vs
 |[],vs,_,_=>by simp[y4,iV]
 |c::l,vs,hb,hr=>by simp[y4,iV,mV]at*;exact⟨by rw[ER];exact hr.1,by rw[IS];exact hr.2.1,cU.leaf h c vs hb.1 hr.2.2.1,iV.leaf h l _ hb.2 hr.2.2.2⟩
end
def rM(Z:Nat->Nat)(e:ME):ME:=⟨rU Z e.key,rU Z e.val,e.born⟩
def rB(Z:Nat->Nat):B->B
 |.row l e=>.row (jG Z l) e|.vec l e sz st=>.vec (jG Z l) e sz st
 |.map es cl=>.map (es.map (rM Z)) cl
def zr(Z:Nat->Nat)(b:B):(rB Z b).st=b.st:=by cases b<;>rfl
mutual
def z5j{n:Nat}{Z κ:Nat->Nat}(h:∀k,k<n->κ (Z k)=k):(u:U)->bC n u->rU κ (rU Z u)=u
 |.ptr k _ _,hb=>by simp[bC]at hb;simp[rU,h k hb]
 |.sl k _ _ _,hb=>by simp[bC]at hb;simp[rU,h k hb]
 |.vl k _ _ _,hb=>by simp[bC]at hb;simp[rU,h k hb]
 |.map k,hb=>by simp[bC]at hb;simp[rU,h k hb]
 |.iptr l,hb=>by simp[bC]at hb;simp[rU,YP h l hb]
 |.isl t l,hb=>by simp[bC]at hb;simp[rU,qzq h l hb]
 |.fn f a b,hb=>by simp[bC]at hb;simp[rU,YP h a hb.1,YP h b hb.2]
 |.agg l,hb=>by simp[bC]at hb;simp[rU,YP h l hb]
 |.tup l,hb=>by simp[bC]at hb;simp[rU,YP h l hb]
 |.junk,_=>rfl|.bool _,_=>rfl
 |.int _ _,_=>rfl|.str _,_=>rfl
 |.nilp,_=>rfl|.nils,_=>rfl
 |.nilm,_=>rfl|.nilf,_=>rfl
 |.nili,_=>rfl
def YP{n:Nat}{Z κ:Nat->Nat}(h:∀k,k<n->κ (Z k)=k):(l:I U)->aL n l->jG κ (jG Z l)=l
 |[],_=>rfl|u::l,hb=>by simp[aL]at hb;simp[jG,z5j h u hb.1,YP h l hb.2]
def qzq{n:Nat}{Z κ:Nat->Nat}(h:∀k,k<n->κ (Z k)=k):(l:I (I U))->mV n l->y4 κ (y4 Z l)=l
 |[],_=>rfl|c::l,hb=>by simp[mV]at hb;simp[y4,YP h c hb.1,qzq h l hb.2]
end
def bF.leaf{n:Nat}{Z:Nat->Nat}{x y:Cx}(h:WF n Z x y){l:I U}{vs:I M}(hb:aL n l)(hr:bF x l vs):bF y (jG Z l) vs:=⟨cU.leaf h l vs hb hr.1,by rw[ER];exact hr.2⟩
def oS.leaf{n:Nat}{Z:Nat->Nat}{x y:Cx}(h:WF n Z x y){k j:Nat}{b:B}(hb:BelB n b)(kW:y.Y j=x.Y k)(hl:∀i c,x.Y k=some i->lk x.s.h i=some c->lk y.s.h i=some c)(hB:oS x k b):oS y j (rB Z b):=by
 cases b with
 |row l e=>have⟨k1,i,l',e1,e2,e3⟩:=hB;exact⟨by rw[IS];exact k1,i,l',by rw[kW,e1],hl _ _ e1 e2,bF.leaf h hb e3⟩
 |vec l e sz st=>have⟨k1,k2,h3⟩:=hB;refine⟨by rw[IS];exact k1,k2,?_⟩;rcases h3 with⟨rfl,h4⟩|⟨i,l',e1,e2,e3⟩;exact .inl ⟨rfl,by rw[kW,h4]⟩;exact .inr ⟨i,l',by rw[kW,e1],hl _ _ e1 e2,bF.leaf h hb e3⟩
 |map es cl=>have⟨i,es',e1,e2,e3,e4⟩:=hB;refine⟨i,es',by rw[kW,e1],hl _ _ e1 e2,by simpa using e3,fun j e he=>?_⟩;simp only[List.getElem?_map]at he;rcases hj:es[j]? with _|e0;rw[hj]at he;cases he;rw[hj]at he;simp[zM,zA]at he;subst he;have⟨v,q1,q2,q3,q4⟩:=e4 j e0 hj;have Xq:=hb e0 (zX hj);exact⟨v,q1,aD.leaf h _ _ Xq.1 q2,aD.leaf h _ _ Xq.2 q3,q4⟩
structure YF(n:Nat)(Z:Nat->Nat)(x y:Cx):Prop where
 ptr:∀k st off v,k<n->aD x (.ptr (Z k) st off) v->aD y (.ptr k st off) v
 sl:∀k off m c v,k<n->aD x (.sl (Z k) off m c) v->aD y (.sl k off m c) v
 vl:∀k st off m v,k<n->aD x (.vl (Z k) st off m) v->aD y (.vl k st off m) v
 map:∀k v,k<n->aD x (.map (Z k)) v->aD y (.map k) v
 imm:∀i row e,lk x.s.h i=some (.inl (row,e,1))->lk y.s.h i=some (.inl (row,e,1))
mutual
def aD.unleaf{n:Nat}{Z:Nat->Nat}{x y:Cx}(h:YF n Z x y):(u:U)->(v:M)->bC n u->aD x (rU Z u) v->aD y u v
 |.junk,v,_,_=>by simp[aD]
 |.bool b,v,_,hr=>by simpa[rU,aD]using hr
 |.int k z,v,_,hr=>by simpa[rU,aD]using hr
 |.str l,v,_,hr=>by simpa[rU,aD]using hr
 |.nilp,v,_,hr=>by simpa[rU,aD]using hr
 |.ptr k st off,v,hb,hr=>h.ptr k st off v (by simpa[bC]using hb) hr|.iptr l,v,hb,hr=>by simp only[rU,aD]at*;obtain⟨i,off,row,e,h1,h2,h3,h4⟩:=hr;exact⟨i,off,row,e,h1,h.imm _ _ _ h2,cU.unleaf h l _ (by simpa[bC]using hb) h3,by rw[IS]at h4;exact h4⟩
 |.nils,v,_,hr=>by simpa[rU,aD]using hr
 |.sl k off m c,v,hb,hr=>h.sl k off m c v (by simpa[bC]using hb) hr|.vl k st off m,v,hb,hr=>h.vl k st off m v (by simpa[bC]using hb) hr
 |.isl t l,v,hb,hr=>by simp only[rU,aD]at*;rcases hr with⟨h0,hr⟩|⟨i,off,c,h1,h2,h3⟩;exact .inl ⟨List.eq_nil_of_length_eq_zero (by rw[<-Gt Z,h0];rfl),hr⟩;rw[Gt]at h1 h2;refine .inr ⟨i,off,c,h1,h2,?_⟩;rcases h3 with h3 |⟨row,e,sz,g1,g2,g3⟩;exact .inl (List.eq_nil_of_length_eq_zero (by rw[<-Gt Z,h3];rfl));rw[Gt]at g3;exact .inr ⟨row,e,sz,h.imm _ _ _ g1,iV.unleaf h l _ (by simpa[bC]using hb) g2,g3⟩
 |.nilm,v,_,hr=>by simpa[rU,aD]using hr
 |.map k,v,hb,hr=>h.map k v (by simpa[bC]using hb) hr|.fn f a b,v,hb,hr=>by simp[rU,aD]at*;have⟨va,vb,h1,h2,h3,h4,h5⟩:=hr;simp[bC]at hb;rw[ER]at h3 h5;exact⟨va,vb,h1,cU.unleaf h a _ hb.1 h2,h3,cU.unleaf h b _ hb.2 h4,h5⟩
 |.nilf,v,_,hr=>by simpa[rU,aD]using hr
 |.nili,v,_,hr=>by simpa[rU,aD]using hr
 |.agg l,v,hb,hr=>by simp[rU,aD]at*;have⟨vs,h1,h2,h3,h4⟩:=hr;rw[ER]at h3;rw[IS]at h4;exact⟨vs,h1,cU.unleaf h l _ (by simpa[bC]using hb) h2,h3,h4⟩
 |.tup l,v,hb,hr=>by simp[rU,aD]at*;have⟨vs,h1,h2,h3⟩:=hr;rw[ER]at h3;exact⟨vs,h1,cU.unleaf h l _ (by simpa[bC]using hb) h2,h3⟩
def cU.unleaf{n:Nat}{Z:Nat->Nat}{x y:Cx}(h:YF n Z x y):(l:I U)->(vs:I M)->aL n l->cU x (jG Z l) vs->cU y l vs
 |[],vs,_,_=>by simp[cU]
 |u::l,[],_,hr=>by simp[jG,cU]at hr
 |u::l,v::vs,hb,hr=>by simp[jG,cU,aL]at*;exact⟨aD.unleaf h u v hb.1 hr.1,cU.unleaf h l vs hb.2 hr.2⟩
def iV.unleaf{n sz:Nat}{Z:Nat->Nat}{x y:Cx}(h:YF n Z x y):(l:I (I U))->(vs:I M)->mV n l->iV x sz (y4 Z l) vs->iV y sz l vs
 |[],vs,_,_=>by simp[iV]
 |c::l,vs,hb,hr=>by simp[y4,iV,mV]at*;exact⟨by rw[<-ER Z];exact hr.1,by rw[<-IS Z];exact hr.2.1,cU.unleaf h c vs hb.1 hr.2.2.1,iV.unleaf h l _ hb.2 hr.2.2.2⟩
end
def bF.unleaf{n:Nat}{Z:Nat->Nat}{x y:Cx}(h:YF n Z x y){l:I U}{vs:I M}(hb:aL n l)(hr:bF x (jG Z l) vs):bF y l vs:=⟨cU.unleaf h l vs hb hr.1,by rw[<-ER Z];exact hr.2⟩
def oS.unleaf{n:Nat}{Z:Nat->Nat}{x y:Cx}(h:YF n Z x y){k j:Nat}{b:B}(hb:BelB n b)(kW:y.Y j=x.Y k)(hl:∀i c,x.Y k=some i->lk x.s.h i=some c->lk y.s.h i=some c)(hB:oS x k (rB Z b)):oS y j b:=by
 cases b with
 |row l e=>have⟨k1,i,l',e1,e2,e3⟩:=hB;exact⟨by rw[IS]at k1;exact k1,i,l',by rw[kW,e1],hl _ _ e1 e2,bF.unleaf h hb e3⟩
 |vec l e sz st=>have⟨k1,k2,h3⟩:=hB;rw[IS]at k1;refine⟨k1,k2,?_⟩;rcases h3 with⟨h3,h4⟩|⟨i,l',e1,e2,e3⟩;exact .inl ⟨List.eq_nil_of_length_eq_zero (by rw[<-ER Z,h3];rfl),by rw[kW,h4]⟩;exact .inr ⟨i,l',by rw[kW,e1],hl _ _ e1 e2,bF.unleaf h hb e3⟩
 |map es cl=>
  have⟨i,es',e1,e2,e3,e4⟩:=hB;refine⟨i,es',by rw[kW,e1],hl _ _ e1 e2,by simpa using e3,fun j e he=>?_⟩;have hj:(es.map (rM Z))[j]? = some (rM Z e):=by simp[he]
  have⟨v,q1,q2,q3,q4⟩:=e4 j _ hj;have Xq:=hb e (zX he);exact⟨v,q1,aD.unleaf h _ _ Xq.1 q2,aD.unleaf h _ _ Xq.2 q3,q4⟩
def ix:I Nat->Nat->Nat->V Nat
 |[],_,_=>none|a::l,k,i=>cond (Nat.beq a k) (some i) (ix l k (i+1))
def nm:I Nat->Nat->Nat->Nat
 |[],nx,j=>nx+j|a::_,_,0=>a
 |_::l,nx,j+1=>nm l nx j
def IT:∀(ns:I Nat)(nx j:Nat),j<ns.length->∃h:j<ns.length,nm ns nx j=ns[j]
 |a::l,nx,0,h=>⟨h,rfl⟩|a::l,nx,j+1,h=>by have⟨h',e⟩:=IT l nx j (by simpa using h);exact⟨h,by simp[nm,e]⟩
def M9:∀(ns:I Nat)(nx j:Nat),ns.length<=j->nm ns nx j=nx+(j-ns.length)
 |[],nx,j,_=>by simp[nm]
 |a::l,nx,0,h=>by simp at h
 |a::l,nx,j+1,h=>by simp only[nm,M9 l nx j (by simpa using h)];simp
def zaf{ns:I Nat}{nx:Nat}(NC:ns.Nodup)(aE:∀k∈ns,k<nx){i j:Nat}(h:nm ns nx i=nm ns nx j):i=j:=by by_cases hi:i<ns.length;have⟨_,e1⟩:=IT ns nx i hi;by_cases hj:j<ns.length;have⟨_,e2⟩:=IT ns nx j hj;rw[e1,e2]at h;exact(List.getElem_inj NC).1 h;rw[e1,M9 ns nx j (by omega)]at h;have:=aE _ (List.getElem_mem hi);omega;rw[M9 ns nx i (by omega)]at h;by_cases hj:j<ns.length;have⟨_,e2⟩:=IT ns nx j hj;rw[e2]at h;have:=aE _ (List.getElem_mem hj);omega;rw[M9 ns nx j (by omega)]at h;omega
def I1:I Nat->Nat->Bool
 |[],_=>false|a::l,k=>cond (Nat.beq a k) true (I1 l k)
def jt:∀(l:I Nat)(k:Nat),I1 l k=true↔k∈l
 |[],k=>by simp[I1]
 |a::l,k=>by simp[I1,beq_eq,zI];by_cases e:a=k;simp[e];have:¬ k=a:=fun h=>e h.symm;simp[e,this,jt l k]
def AG(ns:I Nat)(nx:Nat):I (Nat×B)->I (Nat×B)
 |[]=>[]|(j,b)::h=>(nm ns nx j,rB (nm ns nx) b)::AG ns nx h
def IV(ns:I Nat):I (Nat×B)->I (Nat×B)
 |[]=>[]|(k,b)::h=>cond (I1 ns k) (IV ns h) ((k,b)::IV ns h)
def ii{ns:I Nat}{nx:Nat}(hi:∀i j,nm ns nx i=nm ns nx j->i=j):∀(h:I (Nat×B))(j:Nat),gt (AG ns nx h) (nm ns nx j)=(gt h j).map (rB (nm ns nx))
 |[],j=>by simp[AG,gt]
 |(i,b)::h,j=>by simp[AG,eA,ii hi h j];by_cases e:i=j;simp[e];have:¬ nm ns nx i=nm ns nx j:=fun h=>e (hi _ _ h);simp[e,this]
def qnu{ns:I Nat}{nx:Nat}:∀(h:I (Nat×B))(k:Nat),(∀j,nm ns nx j≠k)->gt (AG ns nx h) k=none
 |[],k,_=>by simp[AG,gt]
 |(i,b)::h,k,hk=>by simp[AG,eA,hk i,qnu h k hk]
def Pr(ns:I Nat):∀(h:I (Nat×B))(k:Nat),gt (IV ns h) k=if k∈ns then none else gt h k
 |[],k=>by simp[IV,gt]
 |(j,b)::h,k=>by
  have ih:=Pr ns h k;simp[IV];cases hj:I1 ns j with
  |true=>have B5:=(jt ns j).1 hj;simp[zC,ih,eA];by_cases e:j=k;subst e;simp[B5];simp[e]|false=>
   have B5:¬ j∈ns:=fun h=>by rw[(jt ns j).2 h]at hj;cases hj
   simp[zD,eA,ih];by_cases e:j=k;subst e;simp[B5];simp[e]
def d_(a b:I (Nat×B))(k:Nat):gt (a++b) k=match gt a k with |some c=>some c |none=>gt b k:=by induction a with|nil=>simp[gt]|cons p a ih=>have⟨j,c⟩:=p;simp[List.cons_append,eA,ih];by_cases e:j=k<;>simp[e]
def Yk(ns:I Nat)(O R6:Sg):Sg:=⟨AG ns O.nx R6.h++IV ns O.h,O.nx+(R6.nx-ns.length)⟩
mutual
def dw:(u:U)->rU id u=u
 |.ptr k _ _=>by simp[rU]
 |.sl k _ _ _=>by simp[rU]
 |.vl k _ _ _=>by simp[rU]
 |.map k=>by simp[rU]
 |.iptr l=>by simp[rU,WC l]
 |.isl t l=>by simp[rU,v02 l]
 |.fn f a b=>by simp[rU,WC a,WC b]
 |.agg l=>by simp[rU,WC l]
 |.tup l=>by simp[rU,WC l]
 |.junk=>rfl|.bool _=>rfl
 |.int _ _=>rfl|.str _=>rfl
 |.nilp=>rfl|.nils=>rfl
 |.nilm=>rfl|.nilf=>rfl
 |.nili=>rfl
def WC:(l:I U)->jG id l=l
 |[]=>rfl|u::l=>by simp[jG,dw u,WC l]
def v02:(l:I (I U))->y4 id l=l
 |[]=>rfl|c::l=>by simp[y4,WC c,v02 l]
end
def oS.keep{x y:Cx}{k:Nat}{b:B}(h:oS x k b)(hm:Ke x.O.nx x y)(kW:y.Y k=x.Y k)(hl:∀i c,x.Y k=some i->lk x.s.h i=some c->lk y.s.h i=some c):oS y k b:=by
 cases b with
 |row l e=>have⟨k1,i,l',e1,e2,e3⟩:=h;exact⟨k1,i,l',by rw[kW,e1],hl _ _ e1 e2,hm.E e3.bel e3⟩
 |vec l e sz st=>have⟨k1,k2,h3⟩:=h;refine⟨k1,k2,?_⟩;rcases h3 with⟨h3,h4⟩|⟨i,l',e1,e2,e3⟩;exact .inl ⟨h3,by rw[kW,h4]⟩;exact .inr ⟨i,l',by rw[kW,e1],hl _ _ e1 e2,hm.E e3.bel e3⟩
 |map es cl=>have⟨i,es',e1,e2,e3⟩:=h;refine⟨i,es',by rw[kW,e1],hl _ _ e1 e2,e3.1,fun j e he=>?_⟩;have⟨v,q1,q2,q3,q4⟩:=e3.2 j e he;exact⟨v,q1,hm _ _ (aD.bel _ _ q2) q2,hm _ _ (aD.bel _ _ q3) q3,q4⟩
def oS.row_at{x:Cx}{k i:Nat}{b:B}(h:oS x k b)(hi:x.Y k=some i):∃c,lk x.s.h i=some c:=by
 cases b with
 |row l e=>have⟨_,i',l',e1,e2,_⟩:=h;rw[hi]at e1;cases e1;exact⟨_,e2⟩
 |vec l e sz st=>have⟨_,_,h3⟩:=h;rcases h3 with⟨_,h4⟩|⟨i',l',e1,e2,_⟩;rw[hi]at h4;cases h4;rw[hi]at e1;cases e1;exact⟨_,e2⟩
 |map es cl=>have⟨i',es',e1,e2,_⟩:=h;rw[hi]at e1;cases e1;exact⟨_,e2⟩
def bE.frame{P:Program}{f:FuncId}{args:I U}{h0:I (Nat×B)}{R:U->Sg->Prop}(ns:I Nat)(h:bE P f args ⟨h0,ns.length⟩ R)(O:Sg)(NC:ns.Nodup)(aE:∀k∈ns,k<O.nx)(ha:aL ns.length args)
  (jC:∀k b,gt h0 k=some b->k<ns.length/\BelB ns.length b/\gt O.h (nm ns O.nx k)=some (rB (nm ns O.nx) b)):
  bE P f (jG (nm ns O.nx) args) O (fun u O'=>∃u0 R6,R u0 R6/\ns.length<=R6.nx/\u=rU (nm ns O.nx) u0/\O'=Yk ns O R6):=fun F x vs m w bI hx hh mJ he fT dB=>by
 subst hx;have Wv:∀i j,nm ns x.O.nx i=nm ns x.O.nx j->i=j:=fun i j h=>zaf NC aE h;have yV:∀k,k∈ns->∃j,j<ns.length/\nm ns x.O.nx j=k:=fun k hk=>by have⟨j,hj,e⟩:=List.getElem_of_mem hk;exact⟨j,hj,by rw[(IT ns x.O.nx j hj).2,e]⟩
 have Wp:∀j,j<ns.length->nm ns x.O.nx j<x.O.nx:=fun j hj=>by rw[(IT ns x.O.nx j hj).2];exact aE _ (List.getElem_mem hj)
 let x0:Cx:=⟨fun k=>if k<ns.length then x.Y (nm ns x.O.nx k)else none,⟨h0,ns.length⟩,x.s⟩
 have FJ:∀k,k<ns.length->x0.Y k=x.Y (nm ns x.O.nx k):=fun k hk=>by simp[x0,hk]
 have Bs:∀k st (p:V Nat->Prop),k<ns.length->Ref x (nm ns x.O.nx k) st p->Ref x0 k st p:=fun k st p hk ⟨_,h2⟩=>⟨hk,fun b hb=>by have⟨_,_,hg⟩:=jC k b hb;have:=h2 _ hg;rw[zr]at this;rw[FJ k hk];exact this⟩;have DE:YF ns.length (nm ns x.O.nx) x x0:={
  ptr:=fun k st off v hk hr=>by simp[aD]at*;exact⟨hr.1,Bs k st _ hk hr.2⟩
  sl:=fun k off m c v hk hr=>by simp[aD]at*;exact⟨hr.1,Bs k 0 _ hk hr.2⟩
  map:=fun k v hk hr=>by simp[aD]at*;exact⟨hr.1,Bs k 0 _ hk hr.2⟩
  vl:=fun k st off m v hk hr=>by
   simp[aD]at*;have⟨g1,g2,g3⟩:=hr;refine⟨g1,hk,fun b hb=>?_⟩;have⟨_,_,hg⟩:=jC k b hb;have⟨g4,g5⟩:=g3 _ hg;rw[zr]at g4 g5;refine⟨g4,fun e=>?_⟩;have⟨l,e',sz,e7,e8⟩:=g5 e;rw[FJ k hk];cases b with
   |vec l0 e0 Nx st0=>simp[rB,B.vec.injEq]at e7;have⟨_,rfl,rfl,rfl⟩:=e7;exact⟨l0,_,_,rfl,e8⟩
   |row _ _=>simp[rB]at e7|map _ _=>simp[rB]at e7
  imm:=fun i row e hl=>hl }
 have hh0:kM x0:=⟨fun k b hb=>by have⟨h1,h2,h3⟩:=jC k b hb;exact⟨h1,oS.unleaf DE h2 (FJ k h1) (fun i c _ hl=>hl) (hh.ok _ _ h3).2⟩,
  fun k k' b b' i hb cV hi jJ=>by have⟨h1,h2,h3⟩:=jC k b hb;have⟨xU,HN,Dc⟩:=jC k' b' cV;rw[FJ k h1]at hi;rw[FJ k' xU]at jJ;exact Wv _ _ (hh.inj _ _ _ _ i h3 Dc hi jJ),
  hh.bd⟩
 let F0:Nat->lU->Prop:=fun i b=>lk x.s.h i=some b/\∀k c,gt h0 k=some c->x.Y (nm ns x.O.nx k)≠some i
 have hfr0:Fr F0 x0:=fun i b J=>⟨J.1,fun k c hc=>by rw[FJ k (jC k c hc).1];exact J.2 k c hc⟩;refine(h F0 x0 vs m w bI rfl hh0 hfr0 (bF.unleaf DE ha he) fT dB).mono ?_;rintro e w₁ ⟨y0,aH,u0,v,cv,rfl,hR,aS,hO,Wy,wS,DH,eR,jT⟩;have mP:ns.length<=y0.O.nx:=jT;have Wx:∀k,k<x.O.nx->¬ k∈ns->∀j,nm ns x.O.nx j≠k:=fun k hk hn j e=>by by_cases hj:j<ns.length;have⟨_,e1⟩:=IT ns x.O.nx j hj;rw[e1]at e;exact hn (e ▸ List.getElem_mem hj);rw[M9 ns x.O.nx j (by omega)]at e;omega
 let inv:Nat->V Nat:=fun k=>if k<x.O.nx then ix ns k 0 else some (ns.length+(k-x.O.nx))
 let y:Cx:=⟨fun k=>if k∈ns\/x.O.nx<=k then(match inv k with |some j=>y0.Y j |none=>none)else x.Y k,Yk ns x.O y0.O,y0.s⟩
 have hixg:∀(l:I Nat)(j i:Nat),l.Nodup->(hj:j<l.length)->ix l l[j] i=some (i+j):=by
  intro l;induction l with
  |nil=>intro j i _ hj;simp at hj|cons a l ih=>
   intro j i NC hj;cases j with
   |zero=>simp[ix,beq_eq]|succ j=>have d5:¬ a=l[j]'(by simpa using hj):=fun h=>(List.nodup_cons.1 NC).1 (h ▸ List.getElem_mem _);simp[List.getElem_cons_succ,ix,beq_eq,d5,yB,zD];rw[ih j (i+1) (List.nodup_cons.1 NC).2 (by simpa using hj)];congr 1;omega
 have Cg:∀j,inv (nm ns x.O.nx j)=some j:=fun j=>by
  by_cases hj:j<ns.length;have h1:=Wp j hj;have⟨_,e1⟩:=IT ns x.O.nx j hj;simp[inv,h1,if_true];rw[e1,hixg ns j 0 NC hj];simp;have e1:=M9 ns x.O.nx j (by omega);have h1:¬ nm ns x.O.nx j<x.O.nx:=by omega
  simp[inv,h1,if_false,zA];omega
 have FH:∀j,y.Y (nm ns x.O.nx j)=y0.Y j:=fun j=>by
  have h1:nm ns x.O.nx j∈ns\/x.O.nx<=nm ns x.O.nx j:=by by_cases hj:j<ns.length;have⟨_,e1⟩:=IT ns x.O.nx j hj;exact .inl (by rw[e1];exact List.getElem_mem hj);rw[M9 ns x.O.nx j (by omega)];exact .inr (by omega)
  simp[y,h1,if_true,Cg]
 have C3:∀k,k<x.O.nx->¬ k∈ns->y.Y k=x.Y k:=fun k hk hn=>by
  have h1:¬ (k∈ns\/x.O.nx<=k):=by rintro(h |h);exact hn h;omega
  simp[y,h1,if_false]
 have Q7:∀j,gt y.O.h (nm ns x.O.nx j)=(gt y0.O.h j).map (rB (nm ns x.O.nx)):=fun j=>by
  show gt (AG ns x.O.nx y0.O.h++IV ns x.O.h) _=_;rw[d_,ii Wv];cases hg:gt y0.O.h j with
  |some b=>rfl|none=>simp[Option.map_none];rw[Pr];split;rfl;rename_i hn;rcases NH:gt x.O.h (nm ns x.O.nx j)with _|b;rfl;have:=(hh.ok _ _ NH).1;exact absurd rfl (Wx _ this hn j)
 have hgn:∀k,k<x.O.nx->¬ k∈ns->gt y.O.h k=gt x.O.h k:=fun k hk hn=>by show gt (AG ns x.O.nx y0.O.h++IV ns x.O.h) _=_;rw[d_,qnu _ _ (Wx k hk hn),Pr,if_neg hn]
 have zP:∀k b,gt y.O.h k=some b->(∃j b0,k=nm ns x.O.nx j/\gt y0.O.h j=some b0/\b=rB (nm ns x.O.nx) b0)\/(k<x.O.nx/\¬ k∈ns/\gt x.O.h k=some b):=fun k b hb=>by
  by_cases hk:∃j,nm ns x.O.nx j=k;obtain⟨j,rfl⟩:=hk;rw[Q7]at hb;rcases hg:gt y0.O.h j with _|b0;rw[hg]at hb;cases hb;rw[hg]at hb;simp at hb;exact .inl ⟨j,b0,rfl,hg,hb.symm⟩;have sK:∀j,nm ns x.O.nx j≠k:=fun j e=>hk ⟨j,e⟩
  have wO:k<x.O.nx:=by rcases Nat.lt_or_ge k x.O.nx with h |h;exact h;exact absurd (by rw[M9 ns x.O.nx _ (by omega)];omega) (sK (ns.length+(k-x.O.nx)))
  have hn:¬ k∈ns:=fun h=>by have⟨j,_,e⟩:=yV k h;exact sK j e
  rw[hgn k wO hn]at hb;exact .inr ⟨wO,hn,hb⟩
 have tJ:∀k,k<x.O.nx->k∈ns\/¬ k∈ns:=fun k _=>Classical.em _;have K0:y.O.nx=x.O.nx+(y0.O.nx-ns.length):=rfl;have KC:∀j,j<y0.O.nx->nm ns x.O.nx j<y.O.nx:=fun j hj=>by rw[K0];by_cases B5:j<ns.length;have:=Wp j B5;omega;rw[M9 ns x.O.nx j (by omega)];omega
 have K7:∀k st (p:V Nat->Prop),Ref y0 k st p->Ref y (nm ns x.O.nx k) st p:=fun k st p ⟨h1,h2⟩=>⟨KC k h1,fun b hb=>by rw[Q7]at hb;rcases hg:gt y0.O.h k with _|b0;rw[hg]at hb;cases hb;rw[hg]at hb;simp[zM,zA]at hb;subst hb;rw[zr,FH];exact h2 _ hg⟩;have vY:WF y0.O.nx (nm ns x.O.nx) y0 y:={
  ptr:=fun k st off v _ hr=>by simp[aD]at*;exact⟨hr.1,K7 k st _ hr.2⟩
  sl:=fun k off m c v _ hr=>by simp[aD]at*;exact⟨hr.1,K7 k 0 _ hr.2⟩
  map:=fun k v _ hr=>by simp[aD]at*;exact⟨hr.1,K7 k 0 _ hr.2⟩
  vl:=fun k st off m v _ hr=>by simp[aD]at*;have⟨g1,g2,g3⟩:=hr;refine⟨g1,KC k g2,fun b hb=>?_⟩;rw[Q7]at hb;rcases hg:gt y0.O.h k with _|b0;rw[hg]at hb;cases hb;rw[hg]at hb;simp[zM,zA]at hb;subst hb;rw[zr,FH];have⟨g4,g5⟩:=g3 _ hg;refine⟨g4,fun e=>?_⟩;obtain⟨l,e',sz,rfl,e8⟩:=g5 e;exact⟨_,e',sz,rfl,e8⟩
  imm:=fun i row e hl=>hl }
 have himm:∀i row e,lk x.s.h i=some (.inl (row,e,1))->lk y.s.h i=some (.inl (row,e,1)):=fun i row e hl=>(wS i _ ⟨hl,fun k c hc kW=>(hh.ok _ _ (jC k c hc).2.2).2.not1 kW hl⟩).1;have K8:∀k st (p:V Nat->Prop),¬ k∈ns->Ref x k st p->Ref y k st p:=fun k st p hn ⟨h1,h2⟩=>⟨by rw[K0];omega,fun b hb=>by rw[hgn k h1 hn]at hb;rw[C3 k h1 hn];exact h2 b hb⟩;have hkeL:WF x.O.nx id x y:={
  ptr:=fun k st off v hk hr=>by by_cases hn:k∈ns;obtain⟨j,hj,rfl⟩:=yV k hn;exact vY.ptr j st off v (by omega) (eR (.ptr j st off) v (by simpa[bC,x0]using hj) (DE.ptr j st off v hj hr));simp[aD]at*;exact⟨hr.1,K8 k st _ hn hr.2⟩
  sl:=fun k off m c v hk hr=>by by_cases hn:k∈ns;obtain⟨j,hj,rfl⟩:=yV k hn;exact vY.sl j off m c v (by omega) (eR (.sl j off m c) v (by simpa[bC,x0]using hj) (DE.sl j off m c v hj hr));simp[aD]at*;exact⟨hr.1,K8 k 0 _ hn hr.2⟩
  map:=fun k v hk hr=>by by_cases hn:k∈ns;obtain⟨j,hj,rfl⟩:=yV k hn;exact vY.map j v (by omega) (eR (.map j) v (by simpa[bC,x0]using hj) (DE.map j v hj hr));simp[aD]at*;exact⟨hr.1,K8 k 0 _ hn hr.2⟩
  vl:=fun k st off m v hk hr=>by by_cases hn:k∈ns;obtain⟨j,hj,rfl⟩:=yV k hn;exact vY.vl j st off m v (by omega) (eR (.vl j st off m) v (by simpa[bC,x0]using hj) (DE.vl j st off m v hj hr));simp[aD,id]at*;have⟨g1,g2,g3⟩:=hr;refine⟨g1,by rw[K0];omega,fun b hb=>?_⟩;rw[hgn k g2 hn]at hb;rw[C3 k g2 hn];exact g3 b hb
  imm:=himm }
 have KH:∀u,rU id u=u/\True:=fun u=>⟨(dw u),trivial⟩;have UQ:Ke x.O.nx x y:=fun u v hb hr=>by
  have:=aD.leaf hkeL u v hb hr
  rwa [(KH u).1]at this
 have UK:∀k b i c,gt x.O.h k=some b->¬ k∈ns->x.Y k=some i->lk x.s.h i=some c->F0 i c:=fun k b i c hb hn hi hl=>⟨hl,fun j d hd kW=>by
  have⟨h1,_,h3⟩:=jC j d hd;have:=hh.inj _ _ _ _ i h3 hb kW hi;have h5:nm ns x.O.nx j∈ns:=by rw[(IT ns x.O.nx j h1).2];exact List.getElem_mem h1
  exact hn (this ▸ h5)⟩
 refine⟨y,aH,rU (nm ns x.O.nx) u0,v,cv,rfl,⟨u0,y0.O,hR,mP,rfl,rfl⟩,aS,hO,⟨fun k b hb=>?_,fun k k' b b' i hb cV hi jJ=>?_,Wy.bd⟩,fun i b J=>?_,aD.leaf vY u0 v (aD.bel u0 v DH) DH,UQ,by rw[K0];omega⟩;rcases zP k b hb with⟨j,b0,rfl,hg,rfl⟩|⟨h1,h2,h3⟩;have⟨g1,g2⟩:=Wy.ok j b0 hg;exact⟨KC j g1,oS.leaf vY (g2.belB) (FH j) (fun i c _ hl=>hl) g2⟩;exact⟨by rw[K0];omega,(hh.ok k b h3).2.keep UQ (C3 k h1 h2) fun i c hi hl=>(wS i c (UK k b i c h3 h2 hi hl)).1⟩;have mixed:∀k k' b b0 (j:Nat),k=nm ns x.O.nx j->gt y0.O.h j=some b0->y.Y k=some i->k'<x.O.nx->¬ k'∈ns->gt x.O.h k'=some b->y.Y k'=some i->False:=fun k k' b b0 j e hg hi h1 h2 h3 jJ=>by subst e;rw[FH]at hi;rw[C3 k' h1 h2]at jJ;have⟨c,hc⟩:=(hh.ok k' b h3).2.row_at jJ;exact(wS i c (UK k' b i c h3 h2 jJ hc)).2 j b0 hg hi
 rcases zP k b hb with⟨j,b0,e1,hg,_⟩|⟨h1,h2,h3⟩;rcases zP k' b' cV with⟨j',b0',QX,Q8,_⟩|⟨xU,HN,Dc⟩;subst e1 QX;rw[FH]at hi jJ;rw[Wy.inj j j' b0 b0' i hg Q8 hi jJ];exact(mixed k k' b' b0 j e1 hg hi xU HN Dc jJ).elim;rcases zP k' b' cV with⟨j',b0',QX,Q8,_⟩|⟨xU,HN,Dc⟩;exact(mixed k' k b b0' j' QX Q8 jJ h1 h2 h3 hi).elim;rw[C3 k h1 h2]at hi;rw[C3 k' xU HN]at jJ;exact hh.inj k k' b b' i h3 Dc hi jJ;have⟨h1,h2⟩:=mJ i b J;have hF0:F0 i b:=⟨h1,fun k c hc=>h2 _ _ (jC k c hc).2.2⟩;refine⟨(wS i b hF0).1,fun k c hc=>?_⟩;rcases zP k c hc with⟨j,b0,rfl,hg,_⟩|⟨g1,g2,g3⟩;rw[FH];exact(wS i b hF0).2 j b0 hg;rw[C3 k g1 g2];exact h2 k c g3
def a8{v11 β:Type}(o:V v11)(k:v11->V β):V β:=match o with
 |some a=>k a|none=>none
variable{v11:Type}
variable{β:Type}
def aC{o:V v11}{k:v11->V β}{r:β}(h:a8 o k=some r):∃a,o=some a/\k a=some r:=by rcases o with _|a;cases h;exact⟨a,rfl,h⟩
@[simp] def aP{v11 β:Type}(a:v11)(k:v11->V β):a8 (some a) k=k a:=rfl
@[simp] def te{v11 β:Type}(k:v11->V β):a8 none k=none:=rfl
def Ef{c:Bool}{a b:V β}{r:V β}(h:c=true)(J:cond c a b=r):a=r:=by subst h;exact J
def Eg{c:Bool}{a b:V β}{r:V β}(h:c=false)(J:cond c a b=r):b=r:=by subst h;exact J
def aF{β:Type}(p:Prop)[Decidable p](k:V β):V β:=if p then k else none
def d7{p:Prop}[Decidable p]{k:V β}{r:β}(h:aF p k=some r):p/\k=some r:=by unfold aF at h;split at h;rename_i hp;exact⟨hp,h⟩;cases h
def qze{p:Prop}[Decidable p]{k:V β}(h:p):aF p k=k:=by simp[aF,h]
def aB{v11:Type}(l:I v11)(i:Int):V v11:=if 0<=i/\i<(l.length:Int)then l[i.toNat]? else none
variable{l:I v11}
variable{i:Int}
variable{x:v11}
def z44(c:v11->I U)(h:aB l i=some x):0<=i/\i<(l.length:Int)/\(l.map c)[i.toNat]? = some (c x):=by unfold aB at h;split at h;rename_i hp;exact⟨hp.1,hp.2,by simp[h]⟩;cases h
def YU(h:aB l i=some x):0<=i/\i<(l.length:Int)/\l[i.toNat]? = some x:=by unfold aB at h;split at h;rename_i hp;exact⟨hp.1,hp.2,h⟩;cases h
def cH(i:Nat):aB l (i:Int)=l[i]?:=by unfold aB;by_cases h:i<l.length;simp[h];simp[h]
def cI(k:IntKind)(n:Int):I U:=[.int k n]
def cS(s:I UInt8):I U:=[.str s]
def cL{v11:Type}(c:v11->I U)(l:I v11):I U:=[.isl false (l.map c)]
def Gm(n:Nat)(k:IntKind)(x:Int):aL n (cI k x):=by simp[cI,aL,bC]
def z9h(n:Nat)(x:I UInt8):aL n (cS x):=by simp[cS,aL,bC]
variable{c:v11->I U}
def Ex(n:Nat)(h:∀x,aL n (c x))(x:I v11):aL n (cL c x):=by simp[cL,aL,bC,uL c h x]
variable{sz:Nat}
def z2b(h:∀x,(c x).length=sz)(l:I v11):((l.map c).all fun r=>Nat.beq r.length sz)=true:=by simp[h]
def MK(h:∀x,(c x).length=sz)(l:I v11):((l.map c).flatten).length=l.length*sz:=by induction l with|nil=>simp|cons x l ih=>simp[zQ,List.flatten_cons,zU,ih,h,zO,Nat.succ_mul];omega
def z7v(c:v11->I U)(l k:I v11):((l++k).map c).flatten=(l.map c).flatten++(k.map c).flatten:=by simp
def zcj(h:∀x,(c x).length=sz)(l:I v11):lB (l.map c).flatten (0*sz) (l.length*sz)=some (l.map c).flatten:=by have:=MK h l;simp[lB,Nat.zero_mul,Nat.zero_add,this,zF,if_true,List.drop_zero];rw[<-this,List.take_length]
def ko(h:∀x,(c x).length=sz)(l:I v11)(i:Nat):((l.map c).flatten).drop (i*sz)=((l.drop i).map c).flatten:=by induction i generalizing l with|zero=>simp|succ i ih=>rcases l with _|⟨x,l⟩;simp;simp only[zQ,List.flatten_cons,List.drop_succ_cons,Nat.succ_mul];rw[Nat.add_comm,<-List.drop_drop,List.drop_append_of_le_length (by rw[h];exact zF _)];rw[show(c x).drop sz=[]from List.drop_eq_nil_of_le (by rw[h];exact zF _),List.nil_append,ih]
def e_(h:∀x,(c x).length=sz)(l:I v11)(i:Nat):((l.map c).flatten).take (i*sz)=((l.take i).map c).flatten:=by induction i generalizing l with|zero=>simp|succ i ih=>rcases l with _|⟨x,l⟩;simp;simp only[zQ,List.flatten_cons,List.take_succ_cons,Nat.succ_mul];rw[Nat.add_comm,List.take_append,h,zW (by rw[h];omega),Nat.add_sub_cancel_left,ih]
def qp8(h:∀x,(c x).length=sz)(l:I v11):cD sz l.length (l.map c).flatten=l.map c:=by induction l with|nil=>rfl|cons x l ih=>simp only[zQ,List.flatten_cons,zO,cD];rw[List.take_append_of_le_length (by rw[h];exact zF _),zW (by rw[h];exact zF _),List.drop_append_of_le_length (by rw[h];exact zF _),List.drop_eq_nil_of_le (by rw[h];exact zF _),List.nil_append,ih]
def z6n(h:∀x,(c x).length=sz)(hx:aB l i=some x):lB (l.map c).flatten (0*sz+i.toNat*sz) sz=some (c x):=by
 have⟨h1,h2,h3⟩:=YU hx;have aE:i.toNat<l.length:=by omega
 have hl:=MK h l;have oN:i.toNat*sz+sz<=l.length*sz:=by rw[<-Nat.succ_mul];exact Nat.mul_le_mul_right _ (by omega)
 simp only[lB,Nat.zero_mul,Nat.zero_add,hl,oN,if_true,ko h,zA];have hd:l.drop i.toNat=x::l.drop (i.toNat+1):=by rw[List.drop_eq_getElem_cons aE];rw[List.getElem?_eq_getElem aE]at h3;rw[Option.some.inj h3]
 rw[hd];simp[zQ,List.flatten_cons];rw[List.take_append_of_le_length (by rw[h];exact zF _),zW (by rw[h];exact zF _)]
def WS(h:∀x,(c x).length=sz)(hz:0<sz)(hx:aB l i=some x):((l.map c).flatten=[])=False:=by have⟨h1,h2,h3⟩:=YU hx;have hl:=MK h l;simp only[eq_iff_iff,iff_false];intro e;rw[e]at hl;have:0<l.length*sz:=Nat.mul_pos (by omega) hz;simp at hl;omega
def zct(h:∀x,(c x).length=1){u:v11->U}(hu:∀x,c x=[u x])(hx:aB l i=some x):nth (l.map c).flatten (0*1+i.toNat*1)=some (u x):=by have:=z6n h hx;have⟨h1,h2⟩:=SS this;rw[hu]at h2;rw[jA];have h3:=congrArg (fun l:I U=>l[0]?) h2;simp[List.getElem?_take,List.getElem?_drop]at h3;simpa using h3.symm
def sW{v11:Type}(l:I v11)(lo hi:Int):V (I v11):=if 0<=lo/\lo<=hi/\hi<=(l.length:Int)then some ((l.take hi.toNat).drop lo.toNat)else none
def qyo(c:v11->I U)(l:I v11)(a b:Nat):qI (l.map c) a b=((l.take b).drop a).map c:=by simp[qI,List.map_drop,List.map_take]
variable{k:I v11}
variable{lo:Int}
variable{hi:Int}
def quy(h:sW l lo hi=some k):0<=lo/\lo<=hi/\hi<=(l.length:Int)/\(l.take hi.toNat).drop lo.toNat=k:=by unfold sW at h;split at h;rename_i hp;exact⟨hp.1,hp.2.1,hp.2.2,Option.some.inj h⟩;cases h
def YE{n m:Nat}{k:IntKind}(h1:0<=hi)(h2:hi<=(n:Int)):i7 m n none (some (.int k hi)) none=some (0,hi.toNat,n):=by have:sH hi (n+1)=true:=OK ⟨by omega,by omega⟩;simp[i7,jY,this]
def xl{n:Nat}{k:IntKind}(h1:0<=lo)(h2:lo<=(n:Int)):i7 n n (some (.int k lo)) none none=some (lo.toNat,n,n):=by have:sH lo (n+1)=true:=OK ⟨by omega,by omega⟩;simp[i7,jY,this]
def O9(n0:Nat)(E:I U->Sg->Prop)(Q:Exit->I U->Sg->Prop):Exit->I U->Sg->Prop
 |.normal,tm,O=>∃tm' O',E tm' O'/\n0<=O'.nx/\Gh n0 tm O tm' O'|e,tm,O=>Q e tm O
variable{C:PG}
variable{n0:Nat}
variable{tm:I U}
variable{O:Sg}
def dO{Q:Exit->I U->Sg->Prop}{c:Code}(E:I U->Sg->Prop)(out:∀tm O,E tm O->Q .normal tm O)(h:WPU C n0 c tm O (O9 n0 E Q)):WPU C n0 c tm O Q:=by
 apply WPU.after h;intro e XP O1 hn h;cases e with
 |normal=>have⟨jO,c6,h1,h2,h3⟩:=h;exact⟨jO,c6,h2,h3,out _ _ h1⟩
 |_=>exact⟨XP,O1,hn,Gh.refl _ _ _,h⟩
def WPU.loopK{Q:Exit->I U->Sg->Prop}{c:Code}{id:Nat}(v08:Nat->I U->Sg->Prop)(E:I U->Sg->Prop)(n:Nat)(h₀:v08 n tm O)
  (out:∀tm O,E tm O->Q .normal tm O)
  (round:∀n tm O,v08 n tm O->WPU C n0 c tm O (EL (fun tm' O'=>∃n' jO c6,n'<n/\v08 n' jO c6/\n0<=c6.nx/\Gh n0 tm' O' jO c6) (AS id (O9 n0 E Q)))):WPU C n0 (.block id (.loop c)) tm O Q:=by apply dO E out;apply aV;exact WPU.loopG v08 n h₀ round
def bE.ghost{P:Program}{f:FuncId}{args args':I U}{O':Sg}{R:U->Sg->Prop}(hg:Gh O.nx args O args' O')(hn:O.nx<=O'.nx)(h:bE P f args' O' R):bE P f args O R:=fun F x vs m w bI hx hh mJ he fT dB=>by
 have⟨y,g1,g2,g3,g4,g5,g6⟩:=hg F x vs hx hh mJ he;have aS:=g1 m w fT;refine(h F y vs m w bI g2 g3 g4 g5 aS.fits (dB.ext (aN.refl _ _) aS.nx)).mono ?_;rintro e w₁ ⟨z,aH,u,v,cv,h1,h2,h3,h4,h5,h6,h7,h8,h9⟩;refine⟨z,aH,u,v,cv,h1,h2,aS.trans h3,h4,h5,h6,h7,?_,?_⟩;have g6':Ke x.O.nx x y:=by rw[hx];exact g6
 exact g6'.trans (h8.le (by rw[hx,g2];exact hn));rw[hx];exact Nat.le_trans hn (by rw[<-g2];exact h9)
mutual
inductive Wk:U->U->Prop
 |refl (u:U):Wk u u
 |nil (t:Bool):Wk .nils (.isl t [])
 |full (l:List (List U)):Wk (.isl true l) (.isl false l)
 |agg {l l':List U} (h:rQ l l'):Wk (.agg l) (.agg l')
 |tup {l l':List U} (h:rQ l l'):Wk (.tup l) (.tup l')
inductive rQ:List U->List U->Prop
 |nil:rQ [] []
 |cons {u u':U} {l l':List U} (h:Wk u u') (h':rQ l l'):rQ (u::l) (u'::l')
end
def rQ.refl:∀l,rQ l l
 |[]=>.nil|u::l=>.cons (.refl u) (rQ.refl l)
def Wk.okC{u u':U}(h:Wk u u'):Vx.okC u'=Vx.okC u:=by cases h<;>rfl
def rQ.len:∀{l l':I U},rQ l l'->l'.length=l.length
 |_,_,.nil=>rfl|_,_,.cons _ h=>by simp[h.len]
def rQ.okL:∀{l l':I U},rQ l l'->Vx.okL l'=Vx.okL l
 |_,_,.nil=>rfl|_,_,.cons h h'=>by simp[Vx.okL,h.okC,h'.okL]
mutual
def Wk.rel{x:Cx}{u u':U}{v:M}(h:Wk u u')(hr:aD x u v):aD x u' v:=by
 cases h with
 |refl=>exact hr|nil t=>simp only[aD]at hr ⊢;exact .inl ⟨trivial,.inl hr⟩
 |full l=>simp only[aD]at hr ⊢;rcases hr with hr |⟨i,off,c,h1,h2,h3⟩;exact .inl hr;exact .inr ⟨i,off,c,h1,by simp,h3⟩
 |agg h=>simp[aD]at hr ⊢;have⟨vs,h1,h2,h3,h4⟩:=hr;exact⟨vs,h1,rQ.rel h h2,by rw[h.len,h3],by rw[h.okL,h4]⟩
 |tup h=>simp[aD]at hr ⊢;have⟨vs,h1,h2,h3⟩:=hr;exact⟨vs,h1,rQ.rel h h2,by rw[h.len,h3]⟩
def rQ.rel{x:Cx}{l l':I U}{vs:I M}(h:rQ l l')(hr:cU x l vs):cU x l' vs:=by rcases h with _|⟨h,h'⟩;exact hr;rcases vs with _|⟨v,vs⟩;simp[cU]at hr;simp[cU]at hr ⊢;exact⟨Wk.rel h hr.1,rQ.rel h' hr.2⟩
end
def Gh.wk{tm':I U}(h:rQ tm tm'):Gh n0 tm O tm' O:=fun F x tv hx hr hf he=>⟨x,fun m w hf=>bQ.refl hf,hx,hr,hf,⟨h.rel he.1,by rw[h.len];exact he.2⟩,Ke.refl _ _⟩
def Gh.fz{tm':I U}{h':I (Nat×B)}(K:Nat)(b:B)(sz:Nat)(hg:gt O.h K=some b)(hb:∀es cl,b≠.map es cl)(ht:k7 K b sz tm=tm')(hh:fzH K b sz O.h=h'):Gh n0 tm O tm' ⟨h',O.nx⟩:=by subst ht;subst hh;exact Gh.freeze sz hg hb
def Lt(h:∀x,(c x).length=sz)(l:I v11)(K s:Nat)(e:X)(st:Nat):fz K (.vec (l.map c).flatten e sz st) s (.vl K st 0 l.length)=.isl false (l.map c):=by have hl:=MK h l;have hc:=qp8 h l;simp[fz,beq_eq,hl,hc]
def qyb(n:Nat):∀(a b:I U),aL n a->aL n b->aL n (a++b)
 |[],b,_,h=>h|u::a,b,h,h'=>by simp[aL]at h;simp[List.cons_append,aL];exact⟨h.1,qyb n a b h.2 h'⟩
def BR{v11:Type}{c:v11->I U}(n:Nat)(h:∀x,aL n (c x)):∀l:I v11,aL n (l.map c).flatten
 |[]=>by simp[aL]
 |x::l=>by simp[zQ,List.flatten_cons];exact qyb n _ _ (h x) (BR n h l)
def RU.fcall{T:Tb}{a9 r:I Oper}{o:Oper}{O1:Sg}{K:I U->Sg->Prop}{f:FuncId}{args args':I U}{u:U}(hw:cM a9 tm o=some true)(hc:kH T tm o.op=some (f,args))(hg:Gh O.nx args O args' O1)(hn:O.nx<=O1.nx)(kI:bE C.prog f args' O1 (fun u' O'=>u'=u/\O'=O1))
  (h:RU C T a9 r (dZ tm o.dst u) O1 K):RU C T a9 (o::r) tm O K:=RU.call hw hc (bE.ghost hg hn kI) (fun u' O' ⟨h1,h2⟩=>by subst h1;subst h2;exact h)
def Gk(c:v11->I U)(kk:IntKind)(h:sW l 0 hi=some k):i7 l.length l.length none (some (.int kk hi)) none=some (0,hi.toNat,l.length)/\qI (l.map c) 0 hi.toNat=k.map c:=by have⟨h1,h2,h3,h4⟩:=quy h;exact⟨YE h2 h3,by rw[qyo,<-h4];rfl⟩
def Ee(c:v11->I U)(kk:IntKind)(h:sW l lo (l.length:Int)=some k):i7 l.length l.length (some (.int kk lo)) none none=some (lo.toNat,l.length,l.length)/\qI (l.map c) lo.toNat l.length=k.map c:=by have⟨h1,h2,h3,h4⟩:=quy h;exact⟨xl h1 h2,by rw[qyo,<-h4];simp⟩
def o4:I (Nat×U)->Nat->V U
 |[],_=>none|(j,u)::l,i=>cond (Nat.beq j i) (some u) (o4 l i)
def Dj(l:I (Nat×U)):Nat->Nat->I U
 |0,_=>[]|n+1,i=>((o4 l i).getD .junk)::Dj l n (i+1)
def fr(n:Nat)(l:I (Nat×U)):I U:=Dj l n 0
def z3n(l:I (Nat×U)):∀n i,(Dj l n i).length=n
 |0,_=>rfl|n+1,i=>by simp[Dj,z3n l n]
def z3m(l:I (Nat×U)):∀n i k,k<n->(Dj l n i)[k]? = some ((o4 l (i+k)).getD .junk)
 |0,_,_,h=>by omega
 |n+1,i,0,_=>by simp[Dj]
 |n+1,i,k+1,h=>by simp[Dj,zH];rw[z3m l n (i+1) k (by omega),show i+1+k=i+(k+1) by omega]
def GY(n:Nat)(l:I (Nat×U)):(fr n l).length=n:=z3n l n 0
variable{k:Nat}
def OL(n:Nat)(l:I (Nat×U))(h:k<n):(fr n l)[k]? = some ((o4 l k).getD .junk):=by have:=z3m l n 0 k h;simpa[fr]using this
variable{n:Nat}
variable{l:I (Nat×U)}
def z9x{t:I U}(hl:t.length=n)(h:∀k,k<n->t[k]? = some ((o4 l k).getD .junk)):t=fr n l:=by apply List.ext_getElem?;intro k;by_cases hk:k<n;rw[h k hk,OL n l hk];rw[List.getElem?_eq_none (by omega),List.getElem?_eq_none (by rw[GY];omega)]
def c7(n:Nat)(l:I (Nat×U)):Operand->V U
 |.tmp t=>cond (Nat.blt t n) (o4 l t) none|.const v=>iN v
 |.func f=>some (.fn (.func f) [] [])|.global _=>none
variable{o:Operand}
variable{u:U}
def fN(h:c7 n l o=some u):c9 (fr n l) o=some u:=by
 cases o with
 |tmp t=>simp[c7]at h;rcases hb:Nat.blt t n with _|_;rw[hb]at h;cases h;rw[hb]at h;simp[zC]at h;simp[c9,jA];have ht:t<n:=zY hb;rw[OL n l ht,h];rfl
 |const v=>exact h|func f=>exact h
 |global g=>cases h
def LU(n:Nat)(l:I (Nat×U)):I Operand->V (I U)
 |[]=>some []|x::r=>match c7 n l x with
  |some v=>(match LU n l r with
   |some q=>some (v::q)|none=>none)
  |none=>none
def Gi{n:Nat}{l:I (Nat×U)}:∀{os:I Operand}{us:I U},LU n l os=some us->mM (fr n l) os=some us
 |[],us,h=>h|o::os,us,h=>by simp[LU]at h;rcases h1:c7 n l o with _|v;simp[h1]at h;rcases h2:LU n l os with _|q;simp[h1,h2]at h;simp[h1,h2]at h;simp[mM,fN h1,Gi h2];exact h
def I2(n:Nat)(l:I (Nat×U)):I (Nat×Operand)->V (I (Nat×U))
 |[]=>some []|(i,x)::r=>match c7 n l x with
  |some v=>(match I2 n l r with
   |some q=>some ((i,v)::q)|none=>none)
  |none=>none
def ae{n:Nat}{l:I (Nat×U)}:∀{os:I (Nat×Operand)}{us:I (Nat×U)},I2 n l os=some us->AN (fr n l) os=some us
 |[],us,h=>h|(i,o)::os,us,h=>by simp[I2]at h;rcases h1:c7 n l o with _|v;simp[h1]at h;rcases h2:I2 n l os with _|q;simp[h1,h2]at h;simp[h1,h2]at h;simp[AN,fN h1,ae h2];exact h
def Ae(l:I (Nat×U)):V Tmp->U->I (Nat×U)
 |none,_=>l|some d,u=>(d,u)::l
def dOk(n:Nat):V Tmp->Bool
 |none=>true|some d=>Nat.blt d n
def sZ{d:V Tmp}(u:U)(hd:dOk n d=true):dZ (fr n l) d u=fr n (Ae l d u):=by
 rcases d with _|d;rfl;have aE:d<n:=zY hd;refine z9x (by simp[dZ,GY]) fun k hk=>?_
 simp[dZ,List.getElem?_set,GY,Ae,o4,beq_eq];by_cases e:d=k;subst e;simp[aE];simp[e,if_false,yB,zD];exact OL n l hk
section
variable{P:Program}{T:Tb}{a9 r:I Oper}{o:Oper}{n:Nat}{l:I (Nat×U)}{O O':Sg}{K:I U->Sg->Prop}{u:U}
variable{C:PG}
variable{d:Tmp}
def RS.op(hw:cM a9 (fr n l) o=some true)(h:bM T O (fr n l) o.op=some (u,O'))(he:o.dst=some d)(hd:Nat.blt d n=true)(hk:RU C T a9 r (fr n ((d,u)::l)) O' K):RU C T a9 (o::r) (fr n l) O K :=
 .inl ⟨hw,u,O',h,by rw[he,sZ (d:=some d) u hd];exact hk⟩
def G8(hw:cM a9 (fr n l) o=some true)(h:bM T O (fr n l) o.op=some (u,O'))(he:o.dst=none)(hk:RU C T a9 r (fr n l) O' K):RU C T a9 (o::r) (fr n l) O K :=
 .inl ⟨hw,u,O',h,by rw[he];exact hk⟩
def RS.no(hw:cM a9 (fr n l) o=some false)(he:o.dst=some d)(hd:Nat.blt d n=true)(hk:RU C T a9 r (fr n ((d,.tup [])::l)) O K):RU C T a9 (o::r) (fr n l) O K :=
 .inr (.inr (.inl ⟨hw,by rw[he,sZ (d:=some d) _ hd];exact hk⟩))
variable{b:Bool}
def RS.nilq{t e ty:X}{xo yo:Operand}{rs:I (I U)}(hw:cM a9 (fr n l) o=some true)(ho:o.op=.binOp .eql t xo yo ty)(hd:T.und t=some (.slice e))(hx:c7 n l xo=some (.isl b rs))(hy:c7 n l yo=some .nils)(he:o.dst=some d)(bG:Nat.blt d n=true)(hk:∀z:Bool,(z=true->rs=[])->RU C T a9 r (fr n ((d,.bool z)::l)) O K):RU C T a9 (o::r) (fr n l) O K :=
 .inr (.inr (.inr (.inl ⟨hw,t,xo,yo,ty,e,b,rs,ho,hd,fN hx,fN hy,fun z hz=>by rw[he,sZ (d:=some d) _ bG];exact hk z hz⟩)))
def RS.step{u:U}{O':Sg}(hw:cM a9 (fr n l) o=some true)(hs:IX C O (fr n l) o (fun u' O1=>u'=u/\O1=O'))(he:o.dst=some d)(hd:Nat.blt d n=true)(hk:RU C T a9 r (fr n ((d,u)::l)) O' K):RU C T a9 (o::r) (fr n l) O K :=
 .inr (.inr (.inr (.inr ⟨hw,_,hs,fun u' O1 h=>by rw[h.1,h.2,he,sZ (d:=some d) _ hd];exact hk⟩)))
def RS.done(h:K (fr n l) O):RU C T a9 [] (fr n l) O K:=h
def RS.call{f:FuncId}{args:I U}(hw:cM a9 (fr n l) o=some true)(hc:kH T (fr n l) o.op=some (f,args))(kI:bE C.prog f args O (fun u' O'=>u'=u/\O'=O))(he:o.dst=some d)(hd:Nat.blt d n=true)(hk:RU C T a9 r (fr n ((d,u)::l)) O K):RU C T a9 (o::r) (fr n l) O K :=
 RU.pcall hw hc kI (by rw[he,sZ (d:=some d) u hd];exact hk)
def RS.fcall{C:PG}{f:FuncId}{args args':I U}{O1:Sg}(hw:cM a9 (fr n l) o=some true)(hc:kH T (fr n l) o.op=some (f,args))(hg:Gh O.nx args O args' O1)(hn:O.nx<=O1.nx)(kI:bE C.prog f args' O1 (fun u' O'=>u'=u/\O'=O1)){d:Tmp}(he:o.dst=some d)(hd:Nat.blt d n=true)(hk:RU C T a9 r (fr n ((d,u)::l)) O1 K):RU C T a9 (o::r) (fr n l) O K :=
 RU.fcall hw hc hg hn kI (by rw[he,sZ (d:=some d) u hd];exact hk)
variable{j:Nat}
variable{want:Bool}
def BL(hg:o.guard=some (j,want))(hj:BP a9 j=some d)(hl:c7 n l (.tmp d)=some (.bool b))(hb:b=want):cM a9 (fr n l) o=some true:=by have:=fN hl;simp[c9]at this;simp[cM,hg,hj,this,hb]
def zp(hg:o.guard=some (j,want))(hj:BP a9 j=some d)(hl:c7 n l (.tmp d)=some (.bool b))(hb:b= !want):cM a9 (fr n l) o=some false:=by have:=fN hl;simp[c9]at this;cases want<;>simp[cM,hg,hj,this,hb]
def GO{q:I U}(hg:o.guard=some (j,want))(hj:BP a9 j=some d)(hl:c7 n l (.tmp d)=some (.tup q)):cM a9 (fr n l) o=some false:=by have:=fN hl;simp[c9]at this;simp[cM,hg,hj,this]
end
section
variable{P:Program}{T:Tb}{a9 r:I Oper}{o:Oper}{n:Nat}{l:I (Nat×U)}{O O':Sg}{b7:I RK}{K:I RK->I U->Sg->Prop}{u:U}
variable{d:Tmp}
def RD.look(hw:cM a9 (fr n l) o=some true)(h:bM T O (fr n l) o.op=some (u,O))(he:o.dst=some d)(hd:Nat.blt d n=true)(hk:RH P T a9 r (fr n ((d,u)::l)) O ((1,⟨fr n l,o,u,false,false,O,O⟩)::b7) K):RH P T a9 (o::r) (fr n l) O b7 K :=
 .inl ⟨hw,u,h,by rw[he,sZ (d:=some d) u hd];exact hk⟩
def RD.act(hw:cM a9 (fr n l) o=some true)(h:bM T O (fr n l) o.op=some (u,O'))(he:o.dst=some d)(hd:Nat.blt d n=true)(hk:RH P T a9 r (fr n ((d,u)::l)) O' ((3,⟨fr n l,o,u,true,true,O,O'⟩)::b7) K):RH P T a9 (o::r) (fr n l) O b7 K :=
 .inr (.inl ⟨hw,u,O',h,by rw[he,sZ (d:=some d) u hd];exact hk⟩)
def RD.actn(hw:cM a9 (fr n l) o=some true)(h:bM T O (fr n l) o.op=some (u,O'))(he:o.dst=none)(hk:RH P T a9 r (fr n l) O' ((3,⟨fr n l,o,u,true,true,O,O'⟩)::b7) K):RH P T a9 (o::r) (fr n l) O b7 K :=
 .inr (.inl ⟨hw,u,O',h,by rw[he];exact hk⟩)
def RD.no(hw:cM a9 (fr n l) o=some false)(he:o.dst=some d)(hd:Nat.blt d n=true)(hk:RH P T a9 r (fr n ((d,.tup [])::l)) O ((0,⟨fr n l,o,.tup [],false,false,O,O⟩)::b7) K):RH P T a9 (o::r) (fr n l) O b7 K :=
 .inr (.inr (.inr (.inr (.inl ⟨hw,by rw[he,sZ (d:=some d) _ hd];exact hk⟩))))
def RD.free{f:FuncId}{args:I U}(hw:cM a9 (fr n l) o=some true)(hc:kH T (fr n l) o.op=some (f,args))(kI:∀s,bE P f args s (fun u' O'=>u'=u/\O'=s))(he:o.dst=some d)(hd:Nat.blt d n=true)(hk:RH P T a9 r (fr n ((d,u)::l)) O ((0,⟨fr n l,o,u,false,false,O,O⟩)::b7) K):RH P T a9 (o::r) (fr n l) O b7 K :=
 .inr (.inr (.inr (.inr (.inr (.inl ⟨hw,u,.inl ⟨f,args,hc,kI⟩,by rw[he,sZ (d:=some d) u hd];exact hk⟩)))))
def RD.freeO(hw:cM a9 (fr n l) o=some true)(hf:AL P T (fr n l) o.op u)(he:o.dst=some d)(hd:Nat.blt d n=true)(hk:RH P T a9 r (fr n ((d,u)::l)) O ((0,⟨fr n l,o,u,false,false,O,O⟩)::b7) K):RH P T a9 (o::r) (fr n l) O b7 K :=
 .inr (.inr (.inr (.inr (.inr (.inl ⟨hw,u,hf,by rw[he,sZ (d:=some d) u hd];exact hk⟩)))))
def RD.fz{u1:U}{s1 O':Sg}(hw:cM a9 (fr n l) o=some true)(h:bM T O (fr n l) o.op=some (u1,s1))(hg:Gh s1.nx [u1] s1 [u] O')(hn:s1.nx<=O'.nx)(he:o.dst=some d)(hd:Nat.blt d n=true)(hk:RH P T a9 r (fr n ((d,u)::l)) O' ((3,⟨fr n l,o,u,true,true,O,O'⟩)::b7) K):RH P T a9 (o::r) (fr n l) O b7 K :=
 .inr (.inr (.inr (.inr (.inr (.inr ⟨hw,u1,s1,d,u,O',h,he,by rw[GY];rwa [Nat.blt_eq]at hd,hg,hn,by rw[he,sZ (d:=some d) u hd];exact hk⟩)))))
def RD.call{f:FuncId}{args:I U}(hw:cM a9 (fr n l) o=some true)(hc:kH T (fr n l) o.op=some (f,args))(kI:bE P f args O (fun u' O'=>u'=u/\O'=O)){d:Tmp}(he:o.dst=some d)(hd:Nat.blt d n=true)(hk:RH P T a9 r (fr n ((d,u)::l)) O ((2,⟨fr n l,o,u,true,false,O,O⟩)::b7) K):RH P T a9 (o::r) (fr n l) O b7 K :=
 RH.call hw hc kI (by rw[he,sZ (d:=some d) u hd];exact hk)
def bD(h:K b7 (fr n l) O):RH P T a9 [] (fr n l) O b7 K:=h
end
def HW(l:I (Nat×U)):I (Nat×U)->Prop
 |[]=>True|(i,u)::r=>o4 l i=some u/\HW l r
def qwu{l:I (Nat×U)}:∀{r:I (Nat×U)},HW l r->∀i u,o4 r i=some u->o4 l i=some u
 |[],_,i,u,h=>by cases h
 |(j,v)::r,hs,i,u,h=>by simp[HW]at hs;simp[o4,beq_eq]at h;by_cases e:j=i;subst e;simp at h;subst h;exact hs.1;simp[e,yB,zD]at h;exact qwu hs.2 i u h
def fq{x:Cx}{tv:I M}(hl:tv.length=n)(h:∀i u,i<n->o4 l i=some u->∃v,tv[i]? = some v/\aD x u v):bF x (fr n l) tv:=by
 refine bF.mk' (by rw[GY,hl]) fun i u hi=>?_;have aE:i<n:=by have:=(zG.1 hi).1;rwa [GY]at this
 rw[OL n l aE]at hi;cases hk:o4 l i with
 |none=>rw[hk]at hi;simp at hi;subst hi;exact⟨tv[i],List.getElem?_eq_getElem (by omega),by simp[aD]⟩|some w=>rw[hk]at hi;simp at hi;subst hi;exact h i w aE hk
def qwk{x:Cx}{tv:I M}(he:bF x (fr n l) tv){i:Nat}(hi:i<n)(h:o4 l i=some u):∃v,tv[i]? = some v/\aD x u v :=
 he.get (by rw[OL n l hi,h];rfl)
variable{n0:Nat}
variable{l':I (Nat×U)}
variable{O:Sg}
def Gh.sub(h:HW l l'):Gh n0 (fr n l) O (fr n l') O:=fun F x tv hx hr hf he=>
 ⟨x,fun m w hf=>bQ.refl hf,hx,hr,hf,fq (by rw[<-he.2,GY]) (fun i u hi hl=>qwk he hi (qwu h i u hl)),Ke.refl _ _⟩
def PV:Nat->I U->I (Nat×U)
 |_,[]=>[]|i,u::l=>(i,u)::PV (i+1) l
def qvq:∀(l:I U)(i k:Nat)(u:U),o4 (PV i l) k=some u->i<=k/\l[k-i]? = some u
 |[],i,k,u,h=>by cases h
 |v::l,i,k,u,h=>by simp[PV,o4,beq_eq]at h;by_cases e:i=k;subst e;simp at h;subst h;simp;simp[e,yB,zD]at h;have⟨h1,h2⟩:=qvq l (i+1) k u h;refine⟨by omega,?_⟩;rw[show k-i=(k-(i+1))+1 by omega];simpa using h2
def qzm:∀(n:Nat)(l:I U)(k:Nat)(u:U),l[k]? = some u->(D3 n l)[k]? = some u
 |0,l,k,u,h=>h|n+1,[],k,u,h=>by simp at h
 |n+1,v::l,0,u,h=>by simpa[D3]using h
 |n+1,v::l,k+1,u,h=>by simp[D3,zH]at*;exact qzm n l k u h
def nj:∀(n:Nat)(l:I U),l.length<=n->(D3 n l).length=n
 |0,l,h=>by simp[D3];exact List.eq_nil_of_length_eq_zero (by omega)
 |n+1,[],h=>by simp[D3,nj n [] (by simp)]
 |n+1,v::l,h=>by simp[D3,nj n l (by simpa using h)]
def NN{args:I U}(h:args.length<=n):Gh n0 (D3 n args) O (fr n (PV 0 args)) O:=fun F x tv hx hr hf he=>
 ⟨x,fun m w hf=>bQ.refl hf,hx,hr,hf,fq (by rw[<-he.2,nj n args h]) (fun i u hi hl=>by have⟨_,h2⟩:=qvq args 0 i u hl;exact he.get (qzm n args i u (by simpa using h2))),Ke.refl _ _⟩
def BelS(n:Nat):I (Nat×U)->Prop
 |[]=>True|(_,u)::l=>bC n u/\BelS n l
def qup{n:Nat}:∀{l:I (Nat×U)},BelS n l->∀i u,o4 l i=some u->bC n u
 |[],_,i,u,h=>by cases h
 |(j,v)::l,hb,i,u,h=>by simp[BelS]at hb;simp[o4,beq_eq]at h;by_cases e:j=i;subst e;simp at h;subst h;exact hb.1;simp[e,yB,zD]at h;exact qup hb.2 i u h
def je{n1:Nat}(h:BelS n1 l):aL n1 (fr n l):=by
 rw[EV];intro u hu;obtain⟨i,hi,rfl⟩:=List.getElem_of_mem hu;have aE:i<n:=by rwa [GY]at hi
 have:=OL n l aE;rw[List.getElem?_eq_getElem hi]at this;simp[zA]at this;rw[this];rcases hk:o4 l i with _|w;simp[bC];exact qup h i w hk
def Gh.toS{n1:Nat}{O':Sg}(ht:HW l l')(hs:(⟨Vx.cut n1 O.h,n1⟩:Sg)=O')(h1:n0<=n1)(h2:n1<=O.nx)(hb:BelS n1 l')(hh:GH n1 O'.h):Gh n0 (fr n l) O (fr n l') O':=by subst hs;exact(Gh.sub ht).trans (Gh.cut h1 h2 (je hb) hh)
def oT{O':Sg}(ht:HW l l')(hs:O=O'):Gh n0 (fr n l) O (fr n l') O':=by subst hs;exact Gh.sub ht
def fzS(K:Nat)(b:B)(sz:Nat):I (Nat×U)->I (Nat×U)
 |[]=>[]|(i,u)::l=>(i,fz K b sz u)::fzS K b sz l
def qz4(K:Nat)(b:B)(sz:Nat):∀(l:I (Nat×U))(i:Nat),o4 (fzS K b sz l) i=(o4 l i).map (fz K b sz)
 |[],i=>rfl|(j,u)::l,i=>by simp[fzS,o4,beq_eq,qz4 K b sz l i];by_cases e:j=i<;>simp[e]
def Dh(K:Nat)(b:B)(sz n:Nat)(l:I (Nat×U)):k7 K b sz (fr n l)=fr n (fzS K b sz l):=by
 refine z9x (by rw[YM,GY]) fun k hk=>?_;have hm:∀(t:I U)(k:Nat),(k7 K b sz t)[k]? = (t[k]?).map (fz K b sz):=by
  intro t;induction t with
  |nil=>intro k;simp[k7]|cons u t ih=>intro k;cases k<;>simp[k7,ih]
 rw[hm,OL n l hk,qz4];rcases o4 l k with _|w;simp[H4];rfl
def Gh.fzS{h':I (Nat×B)}(K:Nat)(b:B)(sz:Nat)(hg:gt O.h K=some b)(hb:∀es cl,b≠.map es cl)(ht:Vx.fzS K b sz l=l')(hh:fzH K b sz O.h=h'):Gh n0 (fr n l) O (fr n l') ⟨h',O.nx⟩:=by subst ht;subst hh;rw[<-Dh];exact Gh.freeze sz hg hb
inductive Ll:List (Nat×U)->List (Nat×U)->Prop
 |nil:Ll [] []
 |cons {i:Nat} {u u':U} {l l':List (Nat×U)} (h:Wk u u') (h':Ll l l'):Ll ((i,u)::l) ((i,u')::l')
def Ll.look:∀{l l':I (Nat×U)},Ll l l'->∀i u',o4 l' i=some u'->∃u,o4 l i=some u/\Wk u u'
 |_,_,.nil,i,u',h=>by cases h
 |_,_,.cons (i:=j) h h',i,u',hu=>by simp[o4,beq_eq]at hu ⊢;by_cases e:j=i;subst e;simp at hu;subst hu;exact⟨_,by simp,h⟩;simp[e,yB,zD]at hu ⊢;exact h'.look i u' hu
def Gh.wkS(h:Ll l l'):Gh n0 (fr n l) O (fr n l') O:=fun F x tv hx hr hf he=>
 ⟨x,fun m w hf=>bQ.refl hf,hx,hr,hf,fq (by rw[<-he.2,GY]) (fun i u hi hl=>by have⟨w,h1,h2⟩:=h.look i u hl;have⟨v,h3,h4⟩:=qwk he hi h1;exact⟨v,h3,h2.rel h4⟩),Ke.refl _ _⟩
def Gh.nilS(i:Nat)(e:X)(sz:Nat)(dS:0<sz)(h0:n0<=O.nx)(hi:c7 n l (.tmp i)=some .nils)(hd:dOk n (some i)=true):Gh n0 (fr n l) O (fr n ((i,.vl O.nx 0 0 0)::l)) (newU O (.vec [] e sz 0)):=by
 have h1:=fN hi;have h2:=Gh.nilvec (n0:=n0) (O:=O) i e sz dS h0 (tm:=fr n l) h1;have h3:=sZ (n:=n) (l:=l) (d:=some i) (.vl O.nx 0 0 0) hd;simp[dZ,Ae]at h3
 rwa [h3]at h2
variable{c:Operand}
variable{t:Bool}
def AD{C:PG}{Q:Exit->I U->Sg->Prop}{p q:Code}(hc:c7 n l c=some (.bool t))(h1:t=true->WPU C n0 p (fr n l) O Q)(h2:t=false->WPU C n0 q (fr n l) O Q):WPU C n0 (.cond c p q) (fr n l) O Q:=WPU.cond (fN hc) h1 h2
variable{T:Tb}
variable{us:I U}
def dW{t:Tmp}{rs:I ResultVar}(h:c7 n l (.tmp t)=some u)(hr:oZ T O (fr n l) rs=some us):oZ T O (fr n l) (.tmp t::rs)=some (u::us):=by have:=fN h;simp[c9]at this;simp[oZ,this,hr]
def dN:oZ T O (fr n l) []=some []:=rfl
variable{t:X}
def mH{a:Tmp}{rs:I ResultVar}(h:bM T O (fr n l) (.load t (.tmp a))=some (u,O))(hr:oZ T O (fr n l) rs=some us):oZ T O (fr n l) (.cell a t::rs)=some (u::us):=by
 have:nI T O (fr n l) (.load t (.tmp a))=some u:=by have hp:gQ T O (fr n l) (.load t (.tmp a))=none:=rfl;have he:nX T O (fr n l) (.load t (.tmp a))=none:=rfl;unfold bM at h;rw[hp]at h;simp only at h;rcases hr:nI T O (fr n l) (.load t (.tmp a))with _|v;rw[hr,he]at h;cases h;rw[hr]at h;simp at h;rw[h]
 simp[oZ,this,hr]
section
variable{T:Tb}{O O':Sg}{n:Nat}{l:I (Nat×U)}{u v w:U}
def vL{op:Op}(h:gQ T O (fr n l) op=some u):bM T O (fr n l) op=some (u,O):=by simp[bM,h]
def NP{op:Op}(h0:gQ T O (fr n l) op=none)(h:nI T O (fr n l) op=some u):bM T O (fr n l) op=some (u,O):=by simp[bM,h,h0]
variable{q:U×Sg}
def HX{op:Op}(h0:gQ T O (fr n l) op=none)(h1:nI T O (fr n l) op=none)(h:nX T O (fr n l) op=some q):bM T O (fr n l) op=some q:=by simp[bM,h,h0,h1]
variable{x:Operand}
def iQ(h:c7 n l x=some u):bM T O (fr n l) (.move x)=some (u,O):=vL (fN h)
def rk(h:c7 n l x=some u):bM T O (fr n l) (.assign x)=some (u,O):=vL (fN h)
variable{a:Operand}
def nk{b:Operand}{t:Bool}(hc:c7 n l c=some (.bool t))(ht:t=true)(h:c7 n l a=some u):bM T O (fr n l) (.pick c a b)=some (u,O):=vL (by subst ht;simp[gQ,fN hc];exact fN h)
def nl{b:Operand}{t:Bool}(hc:c7 n l c=some (.bool t))(ht:t=false)(h:c7 n l b=some u):bM T O (fr n l) (.pick c a b)=some (u,O):=vL (by subst ht;simp[gQ,fN hc];exact fN h)
variable{off:Nat}
def fP{st:Nat}(h:c7 n l x=some (.ptr k st off))(hl:bW O k st=true):bM T O (fr n l) (.nilCheck x)=some (.ptr k st off,O):=vL (by simp[gQ,fN h,hl,zC])
def Pm{ps:Array (Nat×Operand)}{qs:I (Nat×U)}(h:I2 n l ps.toList=some qs)(hb:Gl T t qs=some u):bM T O (fr n l) (.build t ps)=some (u,O):=vL (by simp[gQ,ae h,hb])
variable{t':X}
variable{y:Operand}
def Y7{op:BinOp}(hx:c7 n l x=some v)(hy:c7 n l y=some w)(h:g2 (qK T op t) v w=some u):bM T O (fr n l) (.binOp op t x y t')=some (u,O):=vL (by simp[gQ,fN hx,fN hy,R9,h])
def Ai{op:BinOp}(hx:c7 n l x=some v)(hy:c7 n l y=some w)(h0:g2 (qK T op t) v w=none)(h:OG T O op t v w=some u):bM T O (fr n l) (.binOp op t x y t')=some (u,O):=vL (by simp[gQ,fN hx,fN hy,R9,h0,h])
variable{k:IntKind}
variable{r:M}
def tC{op:BinOp}{k':IntKind}{a b:Int}(hx:c7 n l x=some (.int k a))(hy:c7 n l y=some (.int k' b))(h:kR op k a k' b=some r)(hr:iN r=some u):bM T O (fr n l) (.binOp op t x y t')=some (u,O):=Y7 hx hy (by simp[g2,toV,qK,h,hr])
def GU{op:BinOp}{a b:I UInt8}(hx:c7 n l x=some (.str a))(hy:c7 n l y=some (.str b))(h:IM op ⟨⟨a⟩⟩ ⟨⟨b⟩⟩=some r)(hr:iN r=some u):bM T O (fr n l) (.binOp op t x y t')=some (u,O):=Y7 hx hy (by simp[g2,toV,qK,h,hr])
def TU{op:UnOp}(hx:c7 n l x=some v)(h:toV v=some (r)){q:M}(hu:RP op r=some q)(hq:iN q=some u):bM T O (fr n l) (.unOp op t x)=some (u,O):=vL (by simp[gQ,fN hx,g1,h,hu,hq])
def MC{s d:X}{q:M}(hx:c7 n l x=some v)(h:toV v=some r)(hu:convX T s d r=some q)(hq:iN q=some u):bM T O (fr n l) (.convert s d x)=some (u,O):=vL (by simp[gQ,fN hx,g1,h,hu,hq])
def X'{f:Fn}{first cap:Array Operand}{a b:I U}(h1:LU n l first.toList=some a)(h2:LU n l cap.toList=some b):bM T O (fr n l) (.makeFunc f first cap)=some (.fn f a b,O):=vL (by simp[gQ,Gi h1,Gi h2])
variable{k:Nat}
def kC{f:Nat}{fs:Array Field}{fd:Field}{s st:Nat}(hd:T.und t=some (.struct fs))(hf:nth fs.toList f=some fd)(hs:cO T fd.type=some (s+1))(hx:c7 n l x=some (.ptr k st off))(hl:bW O k st=true){iL:Nat}(ho:off+fd.offset=iL):bM T O (fr n l) (.fieldAddr t x f)=some (.ptr k st iL,O):=vL (by subst ho;simp[gQ,fN hx,SP,hd,hf,hs,hl,zC])
variable{q:I U}
def B'{f:Nat}{fs:Array Field}{fd:Field}{s:Nat}(hd:T.und t=some (.struct fs))(hf:nth fs.toList f=some fd)(hs:cO T fd.type=some (s+1))(hx:c7 n l x=some (.iptr q)){q':I U}(hq:q.drop fd.offset=q'):bM T O (fr n l) (.fieldAddr t x f)=some (.iptr q',O):=vL (by subst hq;simp[gQ,fN hx,SP,hd,hf,hs])
def zag{i:Nat}(hx:c7 n l x=some (.tup q))(h:nth q i=some u):bM T O (fr n l) (.extract x i)=some (u,O):=vL (by simp[gQ,fN hx,ju,h])
def dC{i:Operand}(hx:c7 n l x=some v)(hi:c7 n l i=some w)(h:BQ T O t v w=some u):bM T O (fr n l) (.indexAddr t x i)=some (u,O):=vL (by simp[gQ,fN hx,fN hi,h])
variable{v11:Type}
variable{e:X}
variable{sz:Nat}
variable{b:Bool}
variable{xs:I v11}
variable{i:Int}
def Ge(c:v11->I U){k:IntKind}{x:v11}(hd:T.und t=some (.slice e))(hs:cO T e=some sz)(hc:∀x,(c x).length=sz)(hx:aB xs i=some x)(hq:c x=q):BQ T O t (.isl b (xs.map c)) (.int k i)=some (.iptr q):=by
 subst hq;obtain⟨h1,h2,h3⟩:=z44 c hx;have:Nat.beq (c x).length sz=true:=by simp[beq_eq,hc]
 simp only[BQ,hd,hs,yA,h1,h2,and_self,if_true,h3,this,zC]
variable{e':X}
variable{K:Nat}
def i9(c:v11->I U){st:Nat}{k:IntKind}{x:v11}(hd:T.und t=some (.slice e))(hs:cO T e=some sz)(hz:0<sz)(hc:∀x,(c x).length=sz)(hv:wG O K st=some ((xs.map c).flatten,e',sz))(hx:aB xs i=some x):BQ T O t (.vl K st 0 xs.length) (.int k i)=some (.ptr K st (0*sz+i.toNat*sz)):=by
 have⟨h1,h2,h3⟩:=YU hx;have d5:=WS hc hz hx;have hb:Nat.beq sz sz=true:=by simp[beq_eq]
 simp[BQ,hd,hs,hv,hb,zC,h1,h2,ne_eq,d5,not_false_eq_true,and_self,if_true]
variable{d:TypeDesc}
def YA(c:v11->I U){st:Nat}{x:v11}(hd:T.und t=some d)(ha:sE d=true)(hs:cO T t=some sz)(hc:∀x,(c x).length=sz)(ho:c7 n l o=some (.ptr K st (0*sz+i.toNat*sz)))(hv:gt O.h K=some (.vec (xs.map c).flatten e' sz st))(hx:aB xs i=some x)(hq:c x=q):bM T O (fr n l) (.load t o)=some (.agg q,O):=by
 subst hq;refine NP rfl ?_;have hb:Nat.beq st st=true:=by simp[beq_eq]
 simp only[nI,fN ho,cellsOf,hv,hb,zC,GQ,hd,ha,hs,z6n hc hx]
def AQ(c:v11->I U){st:Nat}{x:v11}(f:v11->U)(hd:T.und t=some d)(ha:sE d=false)(hc:∀x,c x=[f x])(ho:c7 n l o=some (.ptr K st (0*1+i.toNat*1)))(hv:gt O.h K=some (.vec (xs.map c).flatten e' 1 st))(hx:aB xs i=some x):bM T O (fr n l) (.load t o)=some (f x,O):=by
 refine NP rfl ?_;have hb:Nat.beq st st=true:=by simp[beq_eq]
 simp only[nI,fN ho,cellsOf,hv,hb,zC,GQ,hd,ha,zD,zct (fun x=>by rw[hc];rfl) hc hx]
def AR{lo hi mx:V Operand}{a b c:V M}(hx:c7 n l x=some v)(h1:xK (fr n l) lo=some a)(h2:xK (fr n l) hi=some b)(h3:xK (fr n l) mx=some c)(h:IZ T O t v a b c=some u):bM T O (fr n l) (.slice t x lo hi mx)=some (u,O):=vL (by simp[gQ,fN hx,h1,h2,h3,h])
def mT:xK (fr n l) none=some none:=rfl
def AH{k:IntKind}{z:Int}(h:c7 n l o=some (.int k z)):xK (fr n l) (some o)=some (some (.int k z)):=by simp[xK,fN h]
def Y5(c:v11->I U){a h m:Nat}{ys:I v11}{lo hi:V M}(hd:T.und t=some (.slice e))(hs:cO T e=some sz)(hc:∀x,(c x).length=sz)(hb:i7 xs.length xs.length lo hi none=some (a,h,m))(hy:qI (xs.map c) a h=ys.map c):IZ T O t (.isl b (xs.map c)) lo hi none=some (.isl (cond b (Nat.beq h xs.length) false) (ys.map c)):=by simp[IZ,hd,hs,z2b hc xs,if_true,yA,hb,hy]
variable{args:Array Operand}
variable{ts:Array X}
def OD(ha:args.toList=[x]){q:I X}(ht:ts.toList=t::q)(hx:c7 n l x=some v)(h:lenU T O t v=some u):bM T O (fr n l) (.call { callee:=.builtin .len,args:=args,argTypes:=ts })=some (u,O):=vL (by simp[gQ,ha,ht,mM,fN hx,h])
def zbu(c:v11->I U)(hd:T.und t=some (.slice e)):lenU T O t (.isl b (xs.map c))=some (.int .i64 xs.length):=by simp[lenU,hd]
def zah{xs:I Operand}{a:M}{b:I M}(ha:args.toList=x::xs)(hx:c7 n l x=some v)(hl:LU n l xs=some us)(h1:toV v=some a)(h2:eY us=some b)(h:yE SG a b=some r)(hr:iN r=some u):bM T O (fr n l) (.call { callee:=.builtin .max,args:=args,argTypes:=ts })=some (u,O):=vL (by simp[gQ,ha,mM,fN hx,Gi hl,h1,h2,h,hr])
def V'{xs:I Operand}{a:M}{b:I M}(ha:args.toList=x::xs)(hx:c7 n l x=some v)(hl:LU n l xs=some us)(h1:toV v=some a)(h2:eY us=some b)(h:yE SF a b=some r)(hr:iN r=some u):bM T O (fr n l) (.call { callee:=.builtin .min,args:=args,argTypes:=ts })=some (u,O):=vL (by simp[gQ,ha,mM,fN hx,Gi hl,h1,h2,h,hr])
variable{cs:I U}
def j4{st:Nat}(hd:T.und t=some d)(ha:sE d=true)(hs:cO T t=some sz)(hx:c7 n l x=some (.ptr k st off))(hc:cellsOf O k st=some q)(h:lB q off sz=some cs):bM T O (fr n l) (.load t x)=some (.agg cs,O):=NP rfl (by simp[nI,fN hx,hc,GQ,hd,ha,hs,h,zC])
def mW{st:Nat}(hd:T.und t=some d)(ha:sE d=false)(hx:c7 n l x=some (.ptr k st off))(hc:cellsOf O k st=some q)(h:nth q off=some u):bM T O (fr n l) (.load t x)=some (u,O):=NP rfl (by simp[nI,fN hx,hc,GQ,hd,ha,h,zD])
def za8(hd:T.und t=some d)(ha:sE d=true)(hs:cO T t=some sz)(hx:c7 n l x=some (.iptr q))(h:lB q 0 sz=some cs):bM T O (fr n l) (.load t x)=some (.agg cs,O):=NP rfl (by simp[nI,fN hx,GQ,hd,ha,hs,h,zC])
def Oi(hd:T.und t=some d)(ha:sE d=false)(hx:c7 n l x=some (.iptr q))(h:nth q 0=some u):bM T O (fr n l) (.load t x)=some (u,O):=NP rfl (by simp[nI,fN hx,GQ,hd,ha,h,zD])
def Ak(hx:c7 n l x=some v)(h:xL v=some cs)(hk:okL cs=true):bM T O (fr n l) (.box e x)=some (.ptr O.nx 0 0,newU O (.row cs e)):=HX rfl rfl (by simp[nX,fN hx,h,hk,zC])
variable{z:M}
def qzi{a b:Nat}{zu:I U}(hi:T.inf e=some (a,b,z))(hz:qH z.cells.toList=some zu)(hk:okL zu=true):bM T O (fr n l) (.alloc e)=some (.ptr O.nx 0 0,newU O (.row zu e)):=HX rfl rfl (by simp[nX,hi,hz,hk,zC])
def qzk{st:Nat}{q':I U}(hs:cO T t=some sz)(ha:c7 n l a=some (.ptr k st off))(hx:c7 n l x=some v)(hc:xL v=some cs)(hl:Nat.beq cs.length sz=true)(hk:okL cs=true)(hg:cellsOf O k st=some q)(hp:qG q off (GL O k cs)=some q')(DB:M8 O k q'=some O'):bM T O (fr n l) (.store t a x)=some (.junk,O'):=HX rfl rfl (by simp[nX,fN ha,fN hx,Y4,hs,hc,hl,hk,zC,hg,hp,DB])
def Um{ps:Array (Nat×Operand)}{qs:I (Nat×U)}{q:U×Sg}(h:I2 n l ps.toList=some qs)(hb:Qe T O t k qs=some q):bM T O (fr n l) (.buildSlice t k ps)=some q:=HX rfl rfl (by simp[nX,ae h,hb])
def Ul{q:U×Sg}(hx:c7 n l x=some v)(hy:c7 n l y=some w)(hb:Lr T O t v w=some q):bM T O (fr n l) (.makeSlice t x y)=some q:=HX rfl rfl (by simp[nX,fN hx,fN hy,hb])
variable{xt:X}
def uZ{q:U×Sg}(ha:args.toList=[x,y])(ht:ts.toList=[t,xt])(hx:c7 n l x=some v)(hy:c7 n l y=some w)(h:MF T O t xt v w=some q):bM T O (fr n l) (.call { callee:=.builtin .append,args:=args,argTypes:=ts })=some q:=HX rfl rfl (by simp[nX,ha,ht,mM,fN hx,fN hy,jx,h])
def gM{c:Call}{f:Operand}{g:FuncId}{fn:Func}{first cap a7:I U}(hc:c.callee=.value f)(hf:c7 n l f=some (.fn (.func g) first cap))(hg:T.fn g=some fn)(hb:fn.body.isSome=true)(ha:LU n l c.args.toList=some a7){args:I U}(he:first++a7++cap=args):kH T (fr n l) (.call c)=some (g,args):=by subst he;simp[kH,hc,fN hf,hg,hb,zC,Gi ha]
variable{e2:X}
variable{by_:Nat}
def ip(c:v11->I U)(ys:I v11)(hd:T.und t=some (.slice e))(dL:T.und xt=some (.slice e2))(hi:T.inf e=some (sz+1,by_,z))(hz:Nat.beq z.cells.toList.length (sz+1)=true)(hw:wE O (sz+1) w=some (ys.length,(ys.map c).flatten))(hr:ys.length*by_<=140737488355328/\ys.length<=140737488355328):MF T O t xt .nils w=some (.vl O.nx 0 0 ys.length,newU O (.vec (ys.map c).flatten e (sz+1) 0)):=by simp only[MF,hd,dL,hi,hz,zC,hw,hr,and_self,if_true]
def MG(c:v11->I U)(ys:I v11){a:Nat}(hd:T.und t=some (.slice e))(dL:T.und xt=some (.slice e2))(hi:T.inf e=some (sz+1,by_,z))(hz:Nat.beq z.cells.toList.length (sz+1)=true)(hq:rowOf O a=some q)(ho:Nat.ble off q.length=true)(hw:wE O (sz+1) w=some (ys.length,(ys.map c).flatten))(hr:ys.length*by_<=140737488355328/\ys.length<=140737488355328):MF T O t xt (.sl a off 0 0) w=some (.vl O.nx 0 0 ys.length,newU O (.vec (ys.map c).flatten e (sz+1) 0)):=by
 have ho':=zY ho;have:lB q off (0*(sz+1))=some []:=by simp[lB,ho']
 simp only[MF,hd,dL,hi,hz,zC,hw,hq,this,hr,and_self,if_true]
def SL(c:v11->I U)(ys:I v11){a st:Nat}(hd:T.und t=some (.slice e))(dL:T.und xt=some (.slice e2))(hi:T.inf e=some (sz+1,by_,z))(hz:Nat.beq z.cells.toList.length (sz+1)=true)(hc:∀x,(c x).length=sz+1)(hg:gt O.h a=some (.vec (xs.map c).flatten e (sz+1) st))(hw:wE O (sz+1) w=some (ys.length,(ys.map c).flatten))(hr:(xs.length+ys.length)*by_<=140737488355328/\xs.length+ys.length<=140737488355328):MF T O t xt (.vl a st 0 xs.length) w=some (.vl a (st+1) 0 (xs++ys).length,⟨ug O.h a (.vec ((xs++ys).map c).flatten e (sz+1) (st+1)),O.nx⟩):=by
 have b1:Nat.beq st st=true:=by simp[beq_eq]
 have b2:Nat.beq e e=true:=by simp[beq_eq]
 have b3:Nat.beq (sz+1) (sz+1)=true:=by simp[beq_eq]
 have hs:=zcj hc xs;have hl:=MK hc xs;rw[z7v,zU];simp only[MF,hd,dL,hi,hz,zC,hw,hg,b1,b2,b3,hs,hl,hr.1,hr.2,true_and,and_true,or_true,if_true]
def H2(c:v11->I U)(hc:∀x,(c x).length=sz):wE O sz (.isl b (xs.map c))=some (xs.length,(xs.map c).flatten):=by simp[wE,z2b hc xs,if_true,yA]
def Oz(c:v11->I U)(ys:I v11)(hq:rowOf O K=some q)(hs:lB q off (k*sz)=some cs)(hl:k=ys.length)(hc:rZ cs=(ys.map c).flatten):wE O sz (.sl K off k k)=some (ys.length,(ys.map c).flatten):=by subst hl;simp[wE,hq,hs,hc]
def aW{a b:Nat}(h:T.inf t=some (a,b,z)):cO T t=some a:=by simp[cO,h]
def vo{st:Nat}(h:gt O.h K=some (.vec q e sz st)):wG O K st=some (q,e,sz):=by
 have b:Nat.beq st st=true:=by simp[beq_eq]
 simp[wG,h,b,zC]
def za7{st m:Nat}(hd:T.und t=some (.slice e))(h:gt O.h K=some (.vec q e' sz st)):lenU T O t (.vl K st 0 m)=some (.int .i64 m):=by
 have b:Nat.beq st st=true:=by simp[beq_eq]
 simp[lenU,hd,bW,h,B.st,b,zC]
end
def Be(k:IntKind)(a b:Int):kR .add k a k b=some (.int k (k.wrap (a+b))):=by simp[kR]
def za5(k:IntKind)(a b:Int):kR .sub k a k b=some (.int k (k.wrap (a-b))):=by simp[kR]
def Az(k:IntKind)(a b:Int):kR .mul k a k b=some (.int k (k.wrap (a*b))):=by simp[kR]
def xg(k:IntKind){a b:Int}(h:¬ b=0):kR .quo k a k b=some (.int k (k.wrap (a.tdiv b))):=by simp[kR,h]
def Ok(k:IntKind){a b:Int}(h:¬ b=0):kR .rem k a k b=some (.int k (a.tmod b)):=by simp[kR,h]
def Z'(k:IntKind)(a b:Int):kR .eql k a k b=some (.bool (a==b)):=by simp[kR]
def Ay(k:IntKind)(a b:Int):kR .neq k a k b=some (.bool (a != b)):=by simp[kR]
def Ba(k:IntKind)(a b:Int):kR .lss k a k b=some (.bool (decide (a<b))):=by simp[kR]
def Bb(k:IntKind)(a b:Int):kR .leq k a k b=some (.bool (decide (a<=b))):=by simp[kR]
def Bc(k:IntKind)(a b:Int):kR .gtr k a k b=some (.bool (decide (a>b))):=by simp[kR]
def Bd(k:IntKind)(a b:Int):kR .geq k a k b=some (.bool (decide (a>=b))):=by simp[kR]
def Gh.row{n0:Nat}{tm:I U}{O:Sg}{K:Nat}{q q':I U}{e:X}(hg:gt O.h K=some (.row q e))(hk:okL q'=true)(hO:∀x vs,x.O=O->kM x->bF x q vs->bF x q' vs):Gh n0 tm O tm ⟨ug O.h K (.row q' e),O.nx⟩:=fun F x tv hx hr hf he=>by
 subst hx
 let y:Cx:=⟨x.Y,⟨ug x.O.h K (.row q' e),x.O.nx⟩,x.s⟩
 have CF:∀k,gt y.O.h k=if K=k then some (.row q' e)else gt x.O.h k:=fun k=>by show gt (ug x.O.h K (.row q' e)) k=_;rw[BN,hg];rfl
 have gD:Mo x.O.nx x y:=⟨fun k _ h2=>⟨h2,fun b hb=>by rw[CF]at hb;by_cases ek:K=k;subst ek;simp[if_true,zA]at hb;subst hb;exact⟨_,hg,zF _,fun _=>⟨rfl,fun l e sz st h=>by cases h⟩⟩;simp[ek,if_false]at hb;exact⟨b,hb,zF _,fun _=>⟨rfl,fun l e sz st h=>⟨l,h⟩⟩⟩⟩,fun _ _ _ h=>h⟩;refine⟨y,fun m w hf=>bQ.refl hf,rfl,⟨fun k b hb=>?_,fun k k' b b' i hb cV=>?_,hr.bd⟩,fun i b J=>?_,gD.ke.E he.bel he,fun u v hb hr=>gD.ke u v (aD.bel u v hr) hr⟩;rw[CF]at hb;by_cases ek:K=k;subst ek;simp[if_true,zA]at hb;subst hb;have⟨h1,k1,i,l',e1,e2,e3⟩:=hr.ok K _ hg;have:=hO x l' rfl hr e3;exact⟨h1,hk,i,l',e1,e2,gD.ke.E this.bel this⟩;simp[ek,if_false]at hb;have⟨h1,h2⟩:=hr.ok k b hb;exact⟨h1,h2.mono gD rfl fun _ _ _ h=>h⟩;have old:∀k b,gt y.O.h k=some b->∃c,gt x.O.h k=some c:=fun k b hb=>by rw[CF]at hb;by_cases ek:K=k;subst ek;exact⟨_,hg⟩;simp[ek,if_false]at hb;exact⟨b,hb⟩
 have⟨c,hc⟩:=old k b hb;have⟨c',mQ⟩:=old k' b' cV;exact hr.inj k k' c c' i hc mQ;have⟨h1,h2⟩:=hf i b J;refine⟨h1,fun k c hc=>?_⟩;rw[CF]at hc;by_cases ek:K=k;subst ek;exact h2 _ _ hg;simp[ek,if_false]at hc;exact h2 k c hc
def Gh.fresh{n0:Nat}{tm:I U}{O:Sg}(e:X)(sz:Nat)(dS:0<sz)(h0:n0<=O.nx):Gh n0 tm O tm (newU O (.vec [] e sz 0)):=fun F x tv hx hr hf he=>by
 subst hx;have ho:=kc hr e sz dS;exact⟨⟨mL x.Y x.O.nx none,newU x.O (.vec [] e sz 0),x.s⟩,fun m w hf=>bQ.refl hf,rfl,ho.h,ho.fr F hf,ho.mo.ke.E he.bel he,ho.mo.ke.le h0⟩
def x3{n0:Nat}{tm:I U}{O:Sg}(K i:Nat){q:I U}{e0:X}(e:X)(sz:Nat)(dS:0<sz)(h0:n0<=O.nx)(hg:gt O.h K=some (.row q e0))(hi:nth q i=some .nils):Gh n0 tm O tm ⟨ug (newU O (.vec [] e sz 0)).h K (.row (q.set i (.vl O.nx 0 0 0)) e0),O.nx+1⟩:=fun F x tv hx hr hf he=>by
 subst hx;have hK:=(hr.ok K _ hg).1;have⟨_,k1,_⟩:=hr.ok K _ hg;have ho:=kc hr e sz dS;rw[jA]at hi
 let y:Cx:=⟨mL x.Y x.O.nx none,newU x.O (.vec [] e sz 0),x.s⟩
 have Q7:gt y.O.h K=some (.row q e0):=by show gt ((x.O.nx,_)::x.O.h) K=_;rw[eA,if_neg (by omega),hg]
 let z:Cx:=⟨y.Y,⟨ug y.O.h K (.row (q.set i (.vl x.O.nx 0 0 0)) e0),y.O.nx⟩,y.s⟩
 have CF:∀k,gt z.O.h k=if K=k then some (.row (q.set i (.vl x.O.nx 0 0 0)) e0)else gt y.O.h k:=fun k=>by show gt (ug y.O.h K _) k=_;rw[BN,Q7];rfl
 have gD:Mo y.O.nx y z:=⟨fun k _ h2=>⟨h2,fun b hb=>by rw[CF]at hb;by_cases ek:K=k;subst ek;simp[if_true,zA]at hb;subst hb;exact⟨_,Q7,zF _,fun _=>⟨rfl,fun l e sz st h=>by cases h⟩⟩;simp[ek,if_false]at hb;exact⟨b,hb,zF _,fun _=>⟨rfl,fun l e sz st h=>⟨l,h⟩⟩⟩⟩,fun _ _ _ h=>h⟩;have hey:=ho.mo.ke.E he.bel he;have hfy:=ho.fr F hf;refine⟨z,fun m w hf=>bQ.refl hf,rfl,⟨fun k b hb=>?_,fun k k' b b' j hb cV=>?_,ho.h.bd⟩,fun j b J=>?_,gD.ke.E hey.bel hey,fun u v hb hr=>gD.ke u v (aD.bel u v (ho.mo.ke.le h0 u v hb hr)) (ho.mo.ke.le h0 u v hb hr)⟩;rw[CF]at hb;by_cases ek:K=k;subst ek;simp[if_true,zA]at hb;subst hb;have⟨h1,k1,j,l',e1,e2,e3⟩:=ho.h.ok K _ Q7;refine⟨h1,?_,j,l',e1,e2,?_⟩;refine(OM _).2 fun u hu=>?_;rcases List.mem_or_eq_of_mem_set hu with h |h
 exact(OM q).1 k1 u h;subst h;rfl;have⟨v,h3,h4⟩:=e3.get hi;simp[aD]at h4;subst h4;have:=e3.set i (w_ (x:=x) (e:=e) (sz:=sz) (o:=none) (by simp));rw[z00 h3]at this;exact gD.ke.E this.bel this;simp[ek,if_false]at hb;have⟨h1,h2⟩:=ho.h.ok k b hb;exact⟨h1,h2.mono gD rfl fun _ _ _ h=>h⟩;have old:∀k b,gt z.O.h k=some b->∃c,gt y.O.h k=some c:=fun k b hb=>by rw[CF]at hb;by_cases ek:K=k;subst ek;exact⟨_,Q7⟩;simp[ek,if_false]at hb;exact⟨b,hb⟩
 have⟨c,hc⟩:=old k b hb;have⟨c',mQ⟩:=old k' b' cV;exact ho.h.inj k k' c c' j hc mQ;have⟨h1,h2⟩:=hfy j b J;refine⟨h1,fun k c hc=>?_⟩;rw[CF]at hc;by_cases ek:K=k;subst ek;exact h2 _ _ Q7;simp[ek,if_false]at hc;exact h2 k c hc
def kN(k:IntKind)(x:Int):(cI k x).length=1:=rfl
def OJ(x:I UInt8):(cS x).length=1:=rfl
def SK{v11:Type}(c:v11->I U)(x:I v11):(cL c x).length=1:=rfl
section
variable{T:Tb}{O O':Sg}{n:Nat}{l:I (Nat×U)}{u v w:U}
def zav{a b:I UInt8}(h:a.length+b.length<=9223372036854775807):IM .add ⟨⟨a⟩⟩ ⟨⟨b⟩⟩=some (.string ⟨(a++b).toArray⟩):=by
 have:¬ (((a.length+b.length:Nat):Int)>9223372036854775807):=by omega
 simp only[IM,this,if_false]
end
def bE.post{P:Program}{f:FuncId}{args:I U}{O:Sg}{R R':U->Sg->Prop}(h:bE P f args O R)(hg:∀u O1,R u O1->∃u' R5,O.nx<=R5.nx/\Gh O.nx [u] O1 [u'] R5/\R' u' R5):bE P f args O R':=fun F x vs m w bI hx hh mJ he fT dB=>by
 refine(h F x vs m w bI hx hh mJ he fT dB).mono ?_;rintro e w₁ ⟨y,aH,u,v,cv,h1,h2,h3,h4,h5,h6,h7,h8,h9⟩;have⟨u',R5,g1,g2,g3⟩:=hg u y.O h2;have⟨z,z1,z2,z3,z4,z5,z6⟩:=g2 F y [v] rfl h5 h6 (bF.cons h7 (bF.nil y));have⟨v0,Md,e0,z7,_⟩:=z5.inv;cases e0;have d9:=z1 aH w₁ h3.fits;exact⟨z,aH,u',v,cv,h1,z2 ▸ g3,h3.trans d9,h4.ext (aN.refl _ _) d9.nx,z3,z4,z7,by rw[hx]at h8 ⊢;exact h8.trans z6,by rw[hx,z2];exact g1⟩
mutual
def ft(Z:Nat->Nat):(u:U)->bC 0 u->rU Z u=u
 |.ptr k _ _,h=>by simp[bC]at h
 |.sl k _ _ _,h=>by simp[bC]at h
 |.vl k _ _ _,h=>by simp[bC]at h
 |.map k,h=>by simp[bC]at h
 |.iptr l,h=>by simp[bC]at h;simp[rU,MH Z l h]
 |.isl t l,h=>by simp[bC]at h;simp[rU,ni Z l h]
 |.fn f a b,h=>by simp[bC]at h;simp[rU,MH Z a h.1,MH Z b h.2]
 |.agg l,h=>by simp[bC]at h;simp[rU,MH Z l h]
 |.tup l,h=>by simp[bC]at h;simp[rU,MH Z l h]
 |.junk,_=>rfl|.bool _,_=>rfl
 |.int _ _,_=>rfl|.str _,_=>rfl
 |.nilp,_=>rfl|.nils,_=>rfl
 |.nilm,_=>rfl|.nilf,_=>rfl
 |.nili,_=>rfl
def MH(Z:Nat->Nat):(l:I U)->aL 0 l->jG Z l=l
 |[],_=>rfl|u::l,h=>by simp[aL]at h;simp[jG,ft Z u h.1,MH Z l h.2]
def ni(Z:Nat->Nat):(l:I (I U))->mV 0 l->y4 Z l=l
 |[],_=>rfl|c::l,h=>by simp[mV]at h;simp[y4,MH Z c h.1,ni Z l h.2]
end
section
variable{P:Program}{T:Tb}{a9 r:I Oper}{o:Oper}{n:Nat}{l:I (Nat×U)}{O:Sg}{K:I U->Sg->Prop}
def lL{C:PG}{f:FuncId}{args:I U}{R:U->Sg->Prop}(hw:cM a9 (fr n l) o=some true)(hc:kH T (fr n l) o.op=some (f,args))(kI:bE C.prog f args O R){d:Tmp}(he:o.dst=some d)(hd:Nat.blt d n=true)(hk:∀u O',R u O'->RU C T a9 r (fr n ((d,u)::l)) O' K):RU C T a9 (o::r) (fr n l) O K :=
 RU.call hw hc kI (fun u O' h=>by rw[he,sZ (d:=some d) u hd];exact hk u O' h)
end
section
variable{Q:Exit->I U->Sg->Prop}{K:I U->Sg->Prop}{tm:I U}{O:Sg}{i j n0:Nat}{E:I U->Sg->Prop}
def q1(h:K tm O):EL K Q .normal tm O:=h
def q2(h:Q (.exit i) tm O):EL K Q (.exit i) tm O:=h
def q3(h:Q .ret tm O):EL K Q .ret tm O:=h
def q4(h:Q .normal tm O):AS i Q .normal tm O:=h
def q5(h:Q .ret tm O):AS i Q .ret tm O:=h
def q6(h:Q .normal tm O):AS i Q (.exit i) tm O:=Vp h
def q7(m7:¬ j=i)(h:Q (.exit j) tm O):AS i Q (.exit j) tm O:=Vo m7 h
def q8(h:∃tm' O',E tm' O'/\n0<=O'.nx/\Gh n0 tm O tm' O'):O9 n0 E Q .normal tm O:=h
def q9(h:Q .ret tm O):O9 n0 E Q .ret tm O:=h
def q0(h:Q (.exit i) tm O):O9 n0 E Q (.exit i) tm O:=h
end
def z6j:∀{h:I (Nat×B)}{k:Nat}{b:B},gt h k=some b->ug h k b=h
 |[],k,b,hg=>by cases hg
 |(j,c)::h,k,b,hg=>by simp[gt,ug,beq_eq]at*;by_cases e:j=k;subst e;simp[yC,zC,zA]at*;rw[hg];simp[e,yB,zD]at*;rw[z6j hg]
variable{n:Nat}
def bQ.trunc{m:Nm}{s:S}{w:World}(hf:iA m s w){i:Nat}{l:I M}{e:Nat}(hl:lk s.h i=some (.inl (l,e,n+2)))(j:Nat):bQ m s w m ⟨up s.h i (.inl (l.take j,e,n+2)),s.nx⟩ w:=by
 refine bQ.write hf hl rfl (fun k hk=>rfl) rfl rfl rfl rfl (zF _) fun m' ha=>?_;have⟨pre,rest,h1,h2,h3⟩:=(hf m' ha).ok i _ hl;refine⟨pre,aJ m' (l.drop j)++rest,?_,h2,?_⟩;rw[h1];congr 3;have:aJ m' l=aJ m' (l.take j)++aJ m' (l.drop j):=by rw[<-yJ,List.take_append_drop]
 rw[this];simp[zT];have e1:(aJ m' (l.drop j)).length=l.length-j:=by rw[mY];simp
 rw[zU,e1,List.length_take];omega
def Gh.trunc{n0:Nat}{tm:I U}{O:Sg}{K:Nat}{l:I U}{e:X}{sz st:Nat}(hg:gt O.h K=some (.vec l e sz st))(j:Nat):Gh n0 tm O tm ⟨ug O.h K (.vec (l.take j) e sz st),O.nx⟩:=fun F x tv hx hr hf he=>by
 subst hx;have⟨_,k1,k2,k3⟩:=hr.ok K _ hg;rcases k3 with⟨rfl,eH⟩|⟨i,lv,h1,h2,h3⟩;rw[List.take_nil,z6j hg];exact⟨x,fun m w hf=>bQ.refl hf,rfl,hr,hf,he,Ke.refl _ _⟩;have ho:=Ha hr (c:=.inl (lv.take j,e,sz+2)) (bK:=.vec (l.take j) e sz st) hg h1 h2 rfl (by rintro l e sz st h;cases h;exact⟨_,rfl⟩) fun y q1 q2 hm=>⟨OR k1 j,k2,.inr ⟨i,lv.take j,q1,q2,(hm.ke.E h3.bel h3).take j⟩⟩
 refine⟨_,fun m w hf=>bQ.trunc hf h2 j,rfl,ho.h,ho.fr F hf,?_,?_⟩;exact he.mono ho.mo he.bel;exact fun u v hb hv=>aD.mono ho.mo u v (aD.bel u v hv) hv
variable{v11:Type}
variable{n0:Nat}
variable{tm:I U}
variable{O:Sg}
variable{K:Nat}
variable{xs:I v11}
variable{e:X}
variable{sz:Nat}
def Gh.truncL(c:v11->I U){st:Nat}(hc:∀x,(c x).length=sz)(hg:gt O.h K=some (.vec (xs.map c).flatten e sz st))(j:Nat):Gh n0 tm O tm ⟨ug O.h K (.vec ((xs.take j).map c).flatten e sz st),O.nx⟩:=by
 have:=Gh.trunc (n0:=n0) (tm:=tm) hg (j*sz)
 rwa [e_ hc]at this
def Hq(p:Nat->Bool):∀(h:I (Nat×B))(k:Nat),gt (h.filter fun x=>p x.1) k=if p k then gt h k else none
 |[],k=>by simp[gt]
 |(j,b)::h,k=>by
  rw[List.filter_cons];cases hp:p j with
  |true=>simp[if_true,eA,Hq p h k];by_cases e:j=k;subst e;simp[hp];simp[e]|false=>simp[Bool.false_eq_true,if_false,Hq p h k,eA];by_cases e:j=k;subst e;simp[hp];simp[e]
def WB(p:Nat->Bool):Gh n0 tm O tm ⟨O.h.filter fun x=>p x.1,O.nx⟩:=fun F x tv hx hr hf he=>by
 subst hx;have mo:∀n,Mo n x ⟨x.Y,⟨x.O.h.filter fun y=>p y.1,x.O.nx⟩,x.s⟩:=fun n=>⟨fun k _ h2=>⟨h2,fun b' cV=>by simp only[Hq]at cV;split at cV;exact⟨b',cV,zF _,fun _=>⟨rfl,fun l e sz st h=>⟨l,h⟩⟩⟩;cases cV⟩,fun _ _ _ h=>h⟩;refine⟨⟨x.Y,⟨x.O.h.filter fun y=>p y.1,x.O.nx⟩,x.s⟩,fun m w hf=>bQ.refl hf,rfl,⟨?_,?_,hr.bd⟩,?_,he.mono (mo _) he.bel,fun u v hb hv=>aD.mono (mo _) u v (aD.bel u v hv) hv⟩;intro k b hb;simp only[Hq]at hb;split at hb;obtain⟨h1,h2⟩:=hr.ok k b hb;exact⟨h1,h2.mono (mo _) rfl (fun i c _ h=>h)⟩;cases hb;intro k k' b b' i hb cV h1 h2;simp only[Hq]at hb cV;split at hb;split at cV;exact hr.inj k k' b b' i hb cV h1 h2;cases cV;cases hb;intro i b J;obtain⟨h1,h2⟩:=hf i b J;refine⟨h1,fun k c hc=>?_⟩;simp only[Hq]at hc;split at hc;exact h2 k c hc;cases hc
def iU{v11:Type}(l:I v11)(off n:Nat)(i:Int):V v11:=if 0<=i/\i<(n:Int)then l[off+i.toNat]? else none
variable{off:Nat}
variable{i:Int}
variable{x:v11}
def YT{l:I v11}(h:iU l off n i=some x):0<=i/\i<(n:Int)/\l[off+i.toNat]? = some x:=by unfold iU at h;split at h;rename_i hi;exact⟨hi.1,hi.2,h⟩;cases h
section
variable{v11:Type}{c:v11->I U}{sz:Nat}(hc:∀x,(c x).length=sz)
include hc
def ij{xs:I v11}{j:Nat}{x:v11}(h:xs[j]? = some x):lB (xs.map c).flatten (j*sz) sz=some (c x):=by
 have hj:=(zG.1 h).1;unfold lB;rw[MK hc,ko hc];have e:xs.drop j=x::xs.drop (j+1):=by rw[List.drop_eq_getElem_cons hj];congr;exact(zG.1 h).2
 rw[e,if_pos (by rw[<-Nat.succ_mul];exact Nat.mul_le_mul_right _ hj)];simp[zQ,List.flatten_cons];have:=hc x;rw[<-this,List.take_left'];rfl
def ny{xs:I v11}{j:Nat}(h:j<xs.length)(x:v11):qG (xs.map c).flatten (j*sz) (c x)=some ((xs.set j x).map c).flatten:=by unfold qG;rw[MK hc,hc,if_pos (by rw[<-Nat.succ_mul];exact Nat.mul_le_mul_right _ h),<-Nat.succ_mul,ko hc,e_ hc,List.set_eq_take_append_cons_drop,if_pos h];simp
end
section
variable{T:Tb}{O O':Sg}{n:Nat}{l:I (Nat×U)}{u v w:U}
def z1c{q:I U}{j:Nat}{u:U}(h:lB q j 1=some [u]):nth q j=some u:=by
 unfold lB at h;split at h;rename_i hj;simp[zA]at h;rw[jA];have:((q.drop j).take 1)[0]? = some u:=by rw[h];rfl
 simpa using this;cases h
variable{m:Nat}
def Fj(c:v11->I U){t e':X}{st:Nat}{y:v11}{o z:Operand}{cs:I U}{h':I (Nat×B)}(hs:cO T t=some sz)(hc:∀x,(c x).length=sz)(ho:c7 n l o=some (.ptr K st (off*sz+i.toNat*sz)))(hz:c7 n l z=some v)(uP:xL v=some cs)(hk:okL cs=true)(hl:Nat.beq cs.length sz=true)(hy:rZ cs=c y)(hv:gt O.h K=some (.vec (xs.map c).flatten e' sz st))(hx:iU xs off m i=some x)(DB:ug O.h K (.vec ((xs.set (off+i.toNat) y).map c).flatten e' sz st)=h'):bM T O (fr n l) (.store t o z)=some (.junk,⟨h',O.nx⟩):=by
 subst DB;have hb:Nat.beq st st=true:=by simp
 have hj:=(zG.1 (YT hx).2.2).1;have hp:=ny hc hj y;rw[Nat.add_mul]at hp;exact HX rfl rfl (by simp[nX,fN ho,fN hz,Y4,hs,uP,hl,hk,zC,cellsOf,hv,hb,GL,hy,hp,M8])
def pE(h:aB xs i=some x):iU xs 0 xs.length i=some x:=by have⟨h1,h2,h3⟩:=YU h;unfold iU;rw[if_pos ⟨h1,h2⟩,Nat.zero_add];exact h3
def OB(c:v11->I U){t e':X}{st a h q:Nat}{lo hi:V M}(hd:T.und t=some (.slice e))(hs:cO T e=some sz)(hc:∀x,(c x).length=sz)(hv:wG O K st=some ((xs.map c).flatten,e',sz))(hm:off+m<=xs.length)(hb:i7 m m lo hi none=some (a,h,q)):IZ T O t (.vl K st off m) lo hi none=some (.vl K st (off+a) (h-a)):=by
 have b:Nat.beq sz sz=true:=by simp[beq_eq]
 have hl:(off+m)*sz<=(xs.map c).flatten.length:=by rw[MK hc];exact Nat.mul_le_mul_right _ hm
 simp only[IZ,hd,hs,hv,b,zC,hb,hl,if_true]
def wb(c:v11->I U){st:Nat}(hc:∀x,(c x).length=sz)(hv:wG O K st=some ((xs.map c).flatten,e,sz))(hm:off+m<=xs.length):wE O sz (.vl K st off m)=some (((xs.drop off).take m).length,(((xs.drop off).take m).map c).flatten):=by
 have b:Nat.beq sz sz=true:=by simp[beq_eq]
 have hl:off*sz+m*sz<=(xs.map c).flatten.length:=by rw[MK hc,<-Nat.add_mul];exact Nat.mul_le_mul_right _ hm
 have e1:((xs.drop off).take m).length=m:=by simp;omega
 simp only[wE,hv,b,zC,lB,hl,if_true,ko hc,e_ hc,e1]
end
class Ff(a b:Nat):Prop where
 h:a<b
instance{b:Nat}:Ff 0 (b+1):=⟨Nat.succ_pos _⟩
instance{a b:Nat}[q:Ff a b]:Ff (a+1) (b+1):=⟨Nat.succ_lt_succ q.h⟩
class BF{v11:Type}(c:v11->I U):Prop where
 h:∀n x,aL n (c x)
instance(k:IntKind):BF (cI k):=⟨fun n x=>Gm n k x⟩
instance:BF cS:=⟨z9h⟩
instance{v11:Type}(c:v11->I U)[q:BF c]:BF (cL c):=⟨fun n x=>Ex n (q.h n) x⟩
class BU(n:Nat)(u:U):Prop where
 h:bC n u
class fB(n:Nat)(l:I U):Prop where
 h:aL n l
instance(n:Nat):fB n []:=⟨by simp[aL]⟩
instance(n:Nat)(u:U)(l:I U)[a:BU n u][b:fB n l]:fB n (u::l):=⟨by simp[aL];exact⟨a.h,b.h⟩⟩
instance{v11:Type}(n:Nat)(c:v11->I U)(l:I v11)[q:BF c]:fB n (l.map c).flatten:=⟨BR n (q.h n) l⟩
instance(n:Nat)(b:Bool):BU n (.bool b):=⟨by simp[bC]⟩
instance(n:Nat)(k:IntKind)(z:Int):BU n (.int k z):=⟨by simp[bC]⟩
instance(n:Nat)(s:I UInt8):BU n (.str s):=⟨by simp[bC]⟩
instance(n:Nat):BU n .nils:=⟨by simp[bC]⟩
instance(n k st off:Nat)[q:Ff k n]:BU n (.ptr k st off):=⟨by simp[bC];exact q.h⟩
instance(n k off m c:Nat)[q:Ff k n]:BU n (.sl k off m c):=⟨by simp[bC];exact q.h⟩
instance(n k st off m:Nat)[q:Ff k n]:BU n (.vl k st off m):=⟨by simp[bC];exact q.h⟩
instance(n k:Nat)[q:Ff k n]:BU n (.map k):=⟨by simp[bC];exact q.h⟩
instance(n:Nat)(l:I U)[q:fB n l]:BU n (.iptr l):=⟨by simp[bC];exact q.h⟩
instance(n:Nat)(l:I U)[q:fB n l]:BU n (.agg l):=⟨by simp[bC];exact q.h⟩
instance(n:Nat)(l:I U)[q:fB n l]:BU n (.tup l):=⟨by simp[bC];exact q.h⟩
instance(n:Nat)(f:Fn)(a b:I U)[p:fB n a][q:fB n b]:BU n (.fn f a b):=⟨by simp[bC];exact⟨p.h,q.h⟩⟩
instance{v11:Type}(n:Nat)(t:Bool)(c:v11->I U)(l:I v11)[q:BF c]:BU n (.isl t (l.map c)):=⟨by simp[bC];exact uL c (q.h n) l⟩
instance(n:Nat)(t:Bool):BU n (.isl t []):=⟨by simp[bC,mV]⟩
class BS(n:Nat)(l:I (Nat×U)):Prop where
 h:BelS n l
instance(n:Nat):BS n []:=⟨by simp[BelS]⟩
instance(n i:Nat)(u:U)(l:I (Nat×U))[a:BU n u][b:BS n l]:BS n ((i,u)::l):=⟨by simp[BelS];exact⟨a.h,b.h⟩⟩
class Lo{v11:Type}(f:v11->U):Prop where
 h:∀n x,bC n (f x)
instance(k:IntKind):Lo (fun x:Int=>U.int k x):=⟨fun n x=>by simp[bC]⟩
class BB(n:Nat)(b:B):Prop where
 h:BelB n b
instance(n:Nat)(l:I U)(e:X)[q:fB n l]:BB n (.row l e):=⟨by simp[BelB];exact q.h⟩
instance(n:Nat)(l:I U)(e:X)(sz st:Nat)[q:fB n l]:BB n (.vec l e sz st):=⟨by simp[BelB];exact q.h⟩
class BH(n:Nat)(h:I (Nat×B)):Prop where
 h:GH n h
instance(n:Nat):BH n []:=⟨by simp[GH]⟩
instance(n k:Nat)(b:B)(h:I (Nat×B))[p:BB n b][q:BH n h]:BH n ((k,b)::h):=⟨by simp[GH];exact⟨p.h,q.h⟩⟩
def Gh.toC{n1:Nat}{l l':I (Nat×U)}{h':I (Nat×B)}(ht:HW l l')(hs:Vx.cut n1 O.h=h')(h1:n0<=n1)(h2:n1<=O.nx)[hb:BS n1 l'][hh:BH n1 h']:Gh n0 (fr n l) O (fr n l') ⟨h',n1⟩:=Gh.toS ht (by rw[hs]) h1 h2 hb.h hh.h
def u9(u:U)(ht:tm=[u])[q:BU 0 u]:Gh 0 tm O [u] ⟨[],0⟩:=by
 subst ht;refine Gh.to (n1:=0) [] rfl ?_ (zF _) (Nat.zero_le _) (by simp only[aL];exact⟨q.h,trivial⟩) (by simp[GH]);have:∀h:I (Nat×B),Vx.cut 0 h=[]:=by
  intro h;induction h with
  |nil=>rfl|cons x h ih=>have⟨k,b⟩:=x;simp[Vx.cut,ih];rfl
 rw[this]
variable{P:Program}
variable{f:FuncId}
def f'{args:I U}{u:U}(h:bE P f args ⟨[],0⟩ (fun u' _=>u'=u/\bC 0 u'))[q:fB 0 args](O:Sg):bE P f args O (fun u' O'=>u'=u/\O'=O):=bE.pure1 h q.h O
def LR{args args':I U}{u:U}(h:rQ args args')(kI:∀s,bE P f args' s (fun u' O'=>u'=u/\O'=s))(O:Sg):bE P f args O (fun u' O'=>u'=u/\O'=O):=bE.ghost (Gh.wk h) (zF _) (kI O)
class Stp(A:Prop)(B:outParam Prop):Prop where
 h:B->A
section
variable{Q:Exit->I U->Sg->Prop}{K:I U->Sg->Prop}{tm:I U}{O:Sg}{i j n0:Nat}{E:I U->Sg->Prop}
instance:Stp (EL K Q .normal tm O) (K tm O):=⟨q1⟩
instance:Stp (EL K Q (.exit i) tm O) (Q (.exit i) tm O):=⟨q2⟩
instance:Stp (EL K Q .ret tm O) (Q .ret tm O):=⟨q3⟩
instance:Stp (AS i Q .normal tm O) (Q .normal tm O):=⟨q4⟩
instance:Stp (AS i Q .ret tm O) (Q .ret tm O):=⟨q5⟩
instance:Stp (AS i Q (.exit i) tm O) (Q .normal tm O):=⟨q6⟩
instance:Stp (O9 n0 E Q .normal tm O) (∃tm' O',E tm' O'/\n0<=O'.nx/\Gh n0 tm O tm' O'):=⟨q8⟩
instance:Stp (O9 n0 E Q .ret tm O) (Q .ret tm O):=⟨q9⟩
instance:Stp (O9 n0 E Q (.exit i) tm O) (Q (.exit i) tm O):=⟨q0⟩
end
variable{C:PG}
def sq{Q:Exit->I U->Sg->Prop}{p q:Code}(h:WPU C n0 p tm O (EL (fun tm O=>WPU C n0 q tm O Q) Q)):WPU C n0 (.seq p q) tm O Q:=WPU.seq h
section
variable{P:Program}{T:Tb}{a9 r:I Oper}{n:Nat}{l:I (Nat×U)}{O:Sg}{K:I U->Sg->Prop}{u:U}
def RS.mv{o:Oper}{x:Operand}(hw:cM a9 (fr n l) o=some true)(ho:o.op=.move x)(hx:c7 n l x=some u){d:Tmp}(he:o.dst=some d)(hk:RU C T a9 r (fr n ((d,u)::l)) O K)(hd:Nat.blt d n=true:=by rfl):RU C T a9 (o::r) (fr n l) O K:=RS.op hw (by rw[ho];exact iQ hx) he hd hk
def RS.as{o:Oper}{x:Operand}(hw:cM a9 (fr n l) o=some true)(ho:o.op=.assign x)(hx:c7 n l x=some u){d:Tmp}(he:o.dst=some d)(hk:RU C T a9 r (fr n ((d,u)::l)) O K)(hd:Nat.blt d n=true:=by rfl):RU C T a9 (o::r) (fr n l) O K:=RS.op hw (by rw[ho];exact rk hx) he hd hk
end
section
variable{P:Program}{T:Tb}{a9 r:I Oper}{o:Oper}{n:Nat}{l:I (Nat×U)}{O:Sg}{b7:I RK}{K:I RK->I U->Sg->Prop}{u:U}
def RD.mv{x:Operand}(hw:cM a9 (fr n l) o=some true)(ho:o.op=.move x)(hx:c7 n l x=some u){d:Tmp}(he:o.dst=some d)(hk:RH P T a9 r (fr n ((d,u)::l)) O ((1,⟨fr n l,o,u,false,false,O,O⟩)::b7) K)(hd:Nat.blt d n=true:=by rfl):RH P T a9 (o::r) (fr n l) O b7 K:=RD.look hw (by rw[ho];exact iQ hx) he hd hk
end
class tn(a b:Nat):Prop where
 h:¬ a=b
instance{b:Nat}:tn 0 (b+1):=⟨by omega⟩
instance{a b:Nat}[q:tn a b]:tn (a+1) (b+1):=⟨by have:=q.h;omega⟩
instance{Q:Exit->I U->Sg->Prop}{tm:I U}{O:Sg}{i j:Nat}[h:tn j i]:Stp (AS i Q (.exit j) tm O) (Q (.exit j) tm O):=⟨q7 h.h⟩
def gq{A B:Prop}[s:Stp A B](h:B):A:=s.h h
def F8(T:Tb):I Field->V (I (Nat×Nat))
 |[]=>some []|f::fs=>match cO T f.type,F8 T fs with
  |some n,some l=>some ((f.offset,n)::l)|_,_=>none
def z5c{T:Tb}:∀{fs:I Field}{pl:I (Nat×Nat)},F8 T fs=some pl->J0 T fs=true/\∀i,MD T fs i=nth pl i
 |[],pl,h=>by simp[F8]at h;subst h;exact⟨rfl,fun i=>rfl⟩
 |f::fs,pl,h=>by
  simp[F8]at h;rcases h1:cO T f.type with _|n;simp[h1]at h;rcases h2:F8 T fs with _|l;simp[h1,h2]at h;simp[h1,h2,zA]at h;subst h;have⟨g1,g2⟩:=z5c h2;refine⟨by simp[J0,h1,g1],fun i=>?_⟩;cases i with
  |zero=>simp[MD,nth,h1]|succ i=>exact g2 i
structure BdT(T:Tb)(t:X)(zu:I U)(pl:I (Nat×Nat)):Prop where
 bd:∀{qs:I (Nat×U)}{cs:I U},uY (nth pl) zu qs=some cs->okL cs=true->Gl T t qs=some (.agg cs)
variable{t:X}
variable{b:Nat}
variable{z:M}
variable{zu:I U}
def A7{T:Tb}{fs:Array Field}{a:Nat}{pl:I (Nat×Nat)}(hd:T.und t=some (.struct fs))(hi:T.inf t=some (a,b,z))(hz:qH z.cells.toList=some zu)(hp:F8 T fs.toList=some pl):BdT T t zu pl:=⟨fun{qs cs} hf hk=>by
 have⟨g1,g2⟩:=z5c hp;have:MD T fs.toList=nth pl:=funext g2;simp[Gl,hi,hz,hd,g1,zC,this,hf,hk]⟩
section
variable{T:Tb}{O O':Sg}{n:Nat}{l:I (Nat×U)}{u v w:U}
variable{ps:Array (Nat×Operand)}
variable{qs:I (Nat×U)}
variable{cs:I U}
def wx{pl:I (Nat×Nat)}(h:BdT T t zu pl)(he:I2 n l ps.toList=some qs)(hf:uY (nth pl) zu qs=some cs)(hk:okL cs=true):bM T O (fr n l) (.build t ps)=some (.agg cs,O):=Pm he (h.bd hf hk)
def uG{k:Nat}(hd:T.und t=some (.slice e))(hi:T.inf e=some (sz,b,z))(h:I2 n l ps.toList=some qs)(h1:Nat.ble (k*sz) 16777216=true)(h2:Nat.ble k 16777216=true)(h3:Nat.beq z.cells.toList.length sz=true)(hz:qH z.cells.toList=some zu)(hf:uY (fun i=>some (i*sz,sz)) (vN zu k) qs=some cs)(hk:okL cs=true):bM T O (fr n l) (.buildSlice t k ps)=some (.sl O.nx 0 k k,newU O (.row cs e)):=Um h (by simp only[Qe,hd,hi,h1,h2,h3,zC,hz,hf,hk])
def AL.bs{k:Nat}{rs:I (I U)}(hd:T.und t=some (.slice e))(hi:T.inf e=some (sz,b,z))(h:I2 n l ps.toList=some qs)(h1:Nat.ble (k*sz) 16777216=true)(h2:Nat.ble k 16777216=true)(h3:Nat.beq z.cells.toList.length sz=true)(hz:qH z.cells.toList=some zu)(hf:uY (fun i=>some (i*sz,sz)) (vN zu k) qs=some cs)(hk:okL cs=true)(hl:Nat.ble (k*sz) cs.length=true)(hr:cD sz k cs=rs)[hb:fB 0 cs]:AL P T (fr n l) (.buildSlice t k ps) (.isl false rs):=
 .inr ⟨k,sz,cs,e,fun O=>uG hd hi h h1 h2 h3 hz hf hk,zY hl,hb.h,by rw[hr]⟩
variable{a:Int}
variable{k':IntKind}
def za4(k:IntKind){b:Int}(h:¬ b<0):kR .shr k a k' b=some (.int k (a.fdiv (2^(min b.toNat k.bits)))):=by simp[kR,h]
def Ax(k:IntKind){b:Int}(h:¬ b<0):kR .shl k a k' b=some (.int k (k.wrap (a*2^(min b.toNat k.bits)))):=by simp[kR,h]
def Og(c:v11->I U)(z:v11){x y:Operand}{k:IntKind}{by_:Nat}{zv:M}(hx:c7 n l x=some (.int k a))(hy:c7 n l y=some (.int k' a))(hd:T.und t=some (.slice e))(hi:T.inf e=some (sz,by_,zv))(hz:qH zv.cells.toList=some zu)(hk:okL zu=true)(bn:rZ zu=c z)(hl:Nat.beq zv.cells.toList.length sz=true)(hr:0<=a/\by_*a.toNat<=281474976710656/\a<=281474976710656):bM T O (fr n l) (.makeSlice t x y)=some (.sl O.nx 0 a.toNat a.toNat,newU O (.row ((List.replicate a.toNat z).map c).flatten e)):=by
 have A?:vN (c z) a.toNat=((List.replicate a.toNat z).map c).flatten:=by simp[vN]
 refine Ul hx hy ?_;simp only[Lr,hd,hi,hz,hk,hl,zC,hr.1,hr.2.1,hr.2.2,Int.le_refl,and_self,if_true,bn,A?]
variable{m:Nat}
def wI{q:Nat}{k:IntKind}(hd:T.und t=some (.slice e))(hs:cO T e=some sz)(hv:bW O K 0=true)(hx:iU xs 0 m i=some x):BQ T O t (.sl K 0 m q) (.int k i)=some (.ptr K 0 (0*sz+i.toNat*sz)):=by have⟨h1,h2,_⟩:=YT hx;simp[BQ,hd,hs,hv,zC,h1,h2,and_self,if_true,Nat.zero_mul]
def MA(c:v11->I U){e':X}{d:TypeDesc}{o:Operand}(f:v11->U)(hd:T.und t=some d)(ha:sE d=false)(hc:∀x,c x=[f x])(ho:c7 n l o=some (.ptr K 0 (0*1+i.toNat*1)))(hv:gt O.h K=some (.row (xs.map c).flatten e'))(hx:iU xs 0 m i=some x):bM T O (fr n l) (.load t o)=some (f x,O):=by refine NP rfl ?_;have hb:Nat.beq 0 0=true:=rfl;have hg:=ij (c:=c) (sz:=1) (fun x=>by rw[hc];rfl) (YT hx).2.2;rw[hc,Nat.add_mul]at hg;simp only[nI,fN ho,cellsOf,hv,hb,zC,GQ,hd,ha,zD,z1c hg]
def OA(c:v11->I U){e':X}{y:v11}{o z:Operand}{h':I (Nat×B)}(hs:cO T t=some sz)(hc:∀x,(c x).length=sz)(ho:c7 n l o=some (.ptr K 0 (0*sz+i.toNat*sz)))(hz:c7 n l z=some v)(uP:xL v=some cs)(hk:okL cs=true)(hy:cs=c y)(hv:gt O.h K=some (.row (xs.map c).flatten e'))(hx:iU xs 0 m i=some x)(DB:ug O.h K (.row ((xs.set i.toNat y).map c).flatten e')=h'):bM T O (fr n l) (.store t o z)=some (.junk,⟨h',O.nx⟩):=by
 subst hy;subst DB;have hb:Nat.beq 0 0=true:=rfl;have rK:Nat.beq (c y).length sz=true:=by simp[hc]
 have hj:=(zG.1 (YT hx).2.2).1;have hp:=ny hc hj y;rw[Nat.add_mul,Nat.zero_add]at hp;exact HX rfl rfl (by simp only[nX,fN ho,fN hz,Y4,hs,uP,rK,hk,zC,cellsOf,hv,hb,GL,hp,M8])
def za6{q:Nat}(hd:T.und t=some (.slice e))(h:bW O K 0=true):lenU T O t (.sl K off m q)=some (.int .i64 m):=by simp[lenU,hd,h,zC]
def SH{c:v11->I U}(hc:∀x,(c x).length=sz)(h:m=xs.length)(K:Nat)(e:X):fz K (.row (xs.map c).flatten e) sz (.sl K 0 m m)=.isl false (xs.map c):=by
 subst h;have hl:0+xs.length*sz<=(xs.map c).flatten.length:=by rw[MK hc];omega
 have hk:Nat.beq K K=true:=by simp
 simp only[fz,hk,zC,hl,if_true,List.drop_zero,qp8 hc]
end
def bE.own1(c:v11->I U){ys:I v11}{a7:I U}[hc:BF c][ha:fB 0 a7]{k:Nat}
  (h:bE P f a7 ⟨[],0⟩ (fun u O'=>∃t',u=.vl k t' 0 ys.length/\O'=⟨[(k,.vec (ys.map c).flatten e sz t')],k+1⟩)) (O:Sg) (K:Nat) (hK:O.nx+k=K):
  bE P f a7 O (fun u O'=>∃t',u=.vl K t' 0 ys.length/\O'=⟨(K,.vec (ys.map c).flatten e sz t')::O.h,K+1⟩):=by
 subst hK;have xS:∀l:I v11,aL 0 (l.map c).flatten:=fun l=>BR 0 (hc.h 0) l;have h1:=bE.frame [] h O (by simp) (by simp) ha.h (by intro k b hb;simp[gt]at hb);rw[MH _ _ ha.h]at h1;apply bE.post h1;rintro u O1 ⟨u0,R6,⟨t',rfl,rfl⟩,_,rfl,rfl⟩;refine⟨.vl (O.nx+k) t' 0 ys.length,⟨(O.nx+k,.vec (ys.map c).flatten e sz t')::O.h,O.nx+k+1⟩,by simp;omega,?_,t',rfl,rfl⟩;have hs:Yk [] O ⟨[(k,.vec (ys.map c).flatten e sz t')],k+1⟩=⟨(O.nx+k,.vec (ys.map c).flatten e sz t')::IV [] O.h,O.nx+k+1⟩:=by simp[Yk,AG,nm,rB,MH _ _ (xS ys)];omega
 rw[hs];have:=Gh.same (n0:=O.nx) (tm:=[rU (nm [] O.nx) (.vl k t' 0 ys.length)]) (O:=⟨(O.nx+k,.vec (ys.map c).flatten e sz t')::IV [] O.h,O.nx+k+1⟩) ((O.nx+k,.vec (ys.map c).flatten e sz t')::O.h) (fun j=>by rw[eA,eA,Pr];by_cases hk:O.nx+k=j<;>simp[hk]);exact this
def Gh.rowW{q q':I U}(hg:gt O.h K=some (.row q e))(hk:okL q'=true)(h:rQ q q'):Gh n0 tm O tm ⟨ug O.h K (.row q' e),O.nx⟩:=Gh.row hg hk fun x vs _ _ he=>⟨h.rel he.1,by rw[h.len];exact he.2⟩
def bothL{v11 β:Type}:I β->(Bool->V (I v11))->V (I v11)
 |[],F=>match F true,F false with
  |some [],some []=>some []|_,_=>none
 |_::_,F=>F false
def z0n{β:Type}{l:I β}{F:Bool->V (I v11)}{r:I v11}(h:bothL l F=some r)(z:Bool)(hz:z=true->l=[]):F z=some r:=by cases l with|nil=>simp[bothL]at h;split at h;rename_i h1 h2;cases z;rw[h2];exact h;rw[h1];exact h;cases h|cons a l=>rcases z with _|_;exact h;have:=hz rfl;cases this
end Go.Vx
namespace Go.Vx
open Go Go.Rx
structure kG(K v09:Type) where
 es:I (K×v09×Nat)
 cl:Nat
def AM{K v09:Type}(eq:K->K->Bool)(k:K):I (K×v09×Nat)->Nat->V (Nat×v09×Nat)
 |[],_=>none|e::es,i=>cond (eq k e.1) (some (i,e.2.1,e.2.2)) (AM eq k es (i+1))
def AJ{K v09:Type}(v:v09):I (K×v09×Nat)->Nat->I (K×v09×Nat)
 |[],_=>[]|e::es,0=>(e.1,v,e.2.2)::es
 |e::es,i+1=>e::AJ v es i
def GC{K v09:Type}:kG K v09:=⟨[],0⟩
def I0{K v09:Type}(eq:K->K->Bool)(m:kG K v09)(k:K):V v09:=(AM eq k m.es 0).map fun x=>x.2.1
def D4{K v09:Type}(eq:K->K->Bool)(m:kG K v09)(k:K)(v:v09):kG K v09:=match AM eq k m.es 0 with
 |none=>⟨m.es++[(k,v,m.cl)],m.cl+1⟩|some (i,_)=>⟨AJ v m.es i,m.cl⟩
section
variable{K v09:Type}(kU:K->U)(vU:v09->U)
def mE(e:K×v09×Nat):ME:=⟨kU e.1,vU e.2.1,e.2.2⟩
def z4r(v:v09):∀(es:I (K×v09×Nat))(i:Nat),HZ (es.map (mE kU vU)) i (fun e=>{ e with val:=vU v })=(AJ v es i).map (mE kU vU)
 |[],i=>by cases i<;>simp[HZ,AJ]
 |e::es,0=>by simp[HZ,AJ,mE]
 |e::es,i+1=>by simp[HZ,AJ,z4r v es i]
structure W6(T:Tb)(kt:X)(eq:K->K->Bool)(kV:K->M):Prop where
 v:∀k,toV (kU k)=some (kV k)
 cmp:∀a b,eqv T 50 kt (kV a) (kV b)=some (eq a b)
 key:∀k,pA T 50 kt (kV k)=true
 pl:∀k,plain (kV k)=true
 same:∀a b,eq a b=true->AF 50 (kV b) (kV a)=true
variable{kU vU}{T:Tb}{kt:X}{eq:K->K->Bool}{kV:K->M}(hk:W6 kU T kt eq kV)
include hk
def nz(k:K):∀(es:I (K×v09×Nat))(i:Nat),BO T kt (kV k) (es.map (mE kU vU)) i=some ((AM eq k es i).map fun x=>(x.1,vU x.2.1))
 |[],i=>rfl|e::es,i=>by simp[zQ,BO,mE,hk.v,hk.cmp,AM];rcases h:eq k e.1 with _|_;exact nz k es (i+1);simp
omit hk in
def z3h(k:K):∀{es:I (K×v09×Nat)}{i j:Nat}{v:v09}{b:Nat},AM eq k es i=some (j,v,b)->i<=j/\∃k',es[j-i]? = some (k',v,b)/\eq k k'=true
 |[],i,j,v,b,h=>by simp[AM]at h
 |e::es,i,j,v,b,h=>by
  simp[AM]at h;cases he:eq k e.1 with
  |true=>rw[he]at h;simp[zC,zA,zB]at h;have⟨rfl,rfl,rfl⟩:=h;exact⟨zF _,e.1,by simp,he⟩
  |false=>rw[he]at h;simp[zD]at h;have⟨h1,k',h2,h3⟩:=z3h k h;refine⟨by omega,k',?_,h3⟩;rw[show j-i=(j-(i+1))+1 by omega];simpa using h2
variable{O:Sg}{n:Nat}{l:I (Nat×U)}{r:Nat}{m:kG K v09}{t et:X}(hd:T.und t=some (.map kt et))(hg:gt O.h r=some (.map (m.es.map (mE kU vU)) m.cl))
include hd hg
def z8i{x k0:Operand}{k:K}{a b:Nat}{z:M}{zv:v09}(hx:c7 n l x=some (.map r))(Q5:c7 n l k0=some (kU k))(hi:T.inf et=some (a,b,z))(hz:iN z=some (vU zv)):bM T O (fr n l) (.lookup t x k0 true)=some (.tup [vU ((I0 eq m k).getD zv),.bool (I0 eq m k).isSome],O):=by apply NP rfl;simp[nI,hd,fN hx,fN Q5,hk.v,hk.key,zC,hg,nz hk,I0];rcases AM eq k m.es 0 with _|q;simp[Option.map_none,hi,hz,Option.getD_none,Option.isSome];simp[zM,Option.getD_some,Option.isSome]
omit hd hg in
def Av{k:K}{j b:Nat}{v:v09}(hf:AM eq k m.es 0=some (j,v,b)):∃k',nth (m.es.map (mE kU vU)) j=some ⟨kU k',vU v,b⟩/\AF 50 (kV k') (kV k)=true:=by have⟨_,k',h1,h2⟩:=z3h k hf;refine⟨k',?_,hk.same k k' h2⟩;rw[jA,List.getElem?_map];rw[Nat.sub_zero]at h1;rw[h1];rfl
def Aj{x k0 v0:Operand}{k:K}{v:v09}(hx:c7 n l x=some (.map r))(Q5:c7 n l k0=some (kU k))(hv0:c7 n l v0=some (vU v)){O':Sg}(DB:OO O r ((D4 eq m k v).es.map (mE kU vU)) (D4 eq m k v).cl=O'):bM T O (fr n l) (.mapUpdate t x k0 v0)=some (.junk,O'):=by subst DB;apply HX rfl rfl;simp[nX,fN hx,fN Q5,fN hv0,Oh,hd,hk.v,hk.key,hk.pl,zC,hg,nz hk,D4];rcases hf:AM eq k m.es 0 with _|q;simp[Option.map_none,List.map_append,zQ,List.map_nil,mE];have⟨j,v',b⟩:=q;have⟨k',h1,h2⟩:=Av (vU:=vU) hk hf;simp[zM,h1,hk.v,h2,zC,z4r]
end
def zc6{T:Tb}{O:Sg}{n:Nat}{l:I (Nat×U)}{t:X}:bM T O (fr n l) (.makeMap t none)=some (.map O.nx,newU O (.map [] 0)):=HX rfl rfl rfl
def Ew{K v09:Type}{kU:K->U}{vU:v09->U}{n:Nat}(hk:∀k,bC n (kU k))(hv:∀v,bC n (vU v))(es:I (K×v09×Nat)):∀e∈es.map (mE kU vU),bC n e.key/\bC n e.val:=by intro e he;obtain⟨x,_,rfl⟩:=List.mem_map.1 he;exact⟨hk _,hv _⟩
def z4c{T:Tb}{t:X}{k:IntKind}(hd:T.und t=some (.int k)):W6 (fun x=>.int k x) T t (fun a b=>a==b) (fun x=>.int k x) where
 v:=fun _=>rfl
 cmp:=fun a b=>by simp[eqv,hd]
 key:=fun _=>by simp[pA,hd]
 pl:=fun _=>rfl
 same:=fun a b h=>by simp at h;simp[AF,h]
instance{K v09:Type}(n:Nat)(kU:K->U)(vU:v09->U)(es:I (K×v09×Nat))(cl:Nat)[p:Lo kU][q:Lo vU]:BB n (.map (es.map (mE kU vU)) cl):=⟨by simp only[BelB];exact Ew (p.h n) (q.h n) es⟩
end Go.Vx
