import Derived.DataReads
import Derived.ChangeArms
import Derived.OpenShut
import Derived.ChangeSame
import Derived.Test.YtldlchbgolpkaaaGreatP8
set_option linter.all false
namespace Go.Vx
open Go Go.Rx
theorem qw4{X H:Type}{f:X->Option H}:∀{l:List X}{r:List H},l.mapM f=some r->r.length=l.length/\∀(i:Nat)(a:X),l[i]? = some a->∃b,r[i]? = some b/\f a=some b
 |[],r,h=>by simp at h;subst h;simp
 |a::l,r,h=>by
  simp only[List.mapM_cons,bind,Option.bind]at h;rcases h1:f a with _|b;simp[h1]at h;simp only[h1]at h;rcases h2:l.mapM f with _|r';simp[h2]at h;simp[h2,pure]at h;subst h;obtain⟨g1,g2⟩:=qw4 h2;refine⟨by simp[g1],fun i x hx=>?_⟩;cases i with
  |zero=>simp at hx;subst hx;exact⟨b,rfl,h1⟩|succ i=>simp at hx;simpa using g2 i x hx
theorem Wz(W:World):∀(l:List U)(vs:List Value),mV W l vs↔∀(i:Nat)(u:U),l[i]? = some u->∃v,vs[i]? = some v/\Rep W u v
 |[],vs=>by simp[mV]
 |u::us,[]=>by simp only[mV,false_iff];intro h;obtain⟨v,hv,_⟩:=h 0 u rfl;simp at hv
 |u::us,v::vs=>by
  simp only[mV,Wz W us vs];constructor;rintro⟨h1,h2⟩ i w hi;cases i with
  |zero=>simp at hi;subst hi;exact⟨v,rfl,h1⟩|succ i=>simp at hi;simpa using h2 i w hi
  intro h;refine⟨?_,fun i w hi=>by simpa using h (i+1) w (by simpa using hi)⟩;obtain⟨v',h1,h2⟩:=h 0 u rfl;simp at h1;subst h1;exact h2
theorem f?{W:World}{sz:Nat}:∀{l:List (List U)}{vs:List Value},(∀(i:Nat)(c:List U),l[i]? = some c->c.length=sz/\okL c=true/\mV W c (vs.drop (i*sz)))->KL W sz l vs
 |[],vs,h=>by simp[KL]
 |d::l,vs,h=>by simp only[KL];have h0:=h 0 d rfl;refine⟨h0.1,h0.2.1,by simpa using h0.2.2,f? fun i c hc=>?_⟩;have:=h (i+1) c (by simpa using hc);rw[List.drop_drop];rw[Nat.succ_mul,Nat.add_comm]at this;exact this
def Ix(P:Program):Nat->List Field->Nat->Bool
 |o,[],n=>Nat.beq o n|o,f::fs,n=>cond (Nat.beq f.offset o) (Ix P (o+P.cellsOf f.type) fs n) false
def U9(P:Program)(TS:List TypeId)(t:TypeId):Bool:=match P.underlying t with
 |some .bool=>true|some (.int _)=>true
 |some .string=>true|some (.slice e)=>cond (TS.any (Nat.beq e)) (Nat.blt 0 (P.cellsOf e)) false
 |some (.struct fs)=>cond (Ix P 0 fs.toList (P.cellsOf t)) (fs.toList.all fun f=>TS.any (Nat.beq f.type)) false|some (.array n e)=>cond (TS.any (Nat.beq e)) (Nat.beq (P.cellsOf t) (n*P.cellsOf e)) false
 |_=>false
def closedTS(P:Program)(TS:List TypeId):Bool:=TS.all (U9 P TS)
theorem ud{TS:List TypeId}{e:TypeId}(h:TS.any (Nat.beq e)=true):e∈TS:=by
 obtain⟨x,h1,h2⟩:=List.any_eq_true.1 h;have:e=x:=by simpa[beq_eq]using h2
 rw[this];exact h1
theorem qp1{W:World}{P:Program}{fuel:Nat}{cs:List Value}:∀(fs:List Field)(o n:Nat),Ix P o fs n=true->n<=cs.length->
  (∀f∈fs,∃us,mV W us ((cs.drop f.offset).take (P.cellsOf f.type))/\us.length=((cs.drop f.offset).take (P.cellsOf f.type)).length/\okL us=true/\OfTy P fuel f.type us)->
  ∃us,mV W us (cs.drop o)/\us.length=n-o/\okL us=true/\o<=n/\∀f∈fs,o<=f.offset/\OfTy P fuel f.type ((us.drop (f.offset-o)).take (P.cellsOf f.type))
 |[],o,n,hc,hl,h=>by
  have:o=n:=by simpa[Ix,beq_eq]using hc
  subst this;exact⟨[],by simp[mV],by simp,rfl,zF _,by simp⟩
 |f::fs,o,n,hc,hl,h=>by
  simp only[Ix]at hc;obtain⟨h1,h2⟩:=JK hc;have ho:f.offset=o:=by simpa[beq_eq]using h1
  obtain⟨us,g1,g2,g3,g4,g5⟩:=qp1 fs _ n h2 hl fun x hx=>h x (by simp[hx]);obtain⟨u0,k1,k2,k3,k4⟩:=h f (by simp);rw[ho]at k1 k2;have k5:u0.length=P.cellsOf f.type:=by rw[k2];simp;omega
  refine⟨u0++us,?_,by simp[k5,g2];omega,G8 k3 g3,by omega,fun x hx=>?_⟩;rw[Wz]at k1 g1 ⊢;intro i u hu;rw[List.getElem?_append]at hu;split at hu;rename_i aG;obtain⟨v,q1,q2⟩:=k1 i u hu;rw[List.getElem?_take]at q1;rw[k5]at aG;simp only[aG,if_true]at q1;exact⟨v,q1,q2⟩;rename_i aG;obtain⟨v,q1,q2⟩:=g1 _ u hu;rw[List.getElem?_drop]at q1 ⊢;exact⟨v,by rw[k5]at q1 aG;rw[show o+i=o+P.cellsOf f.type+(i-P.cellsOf f.type) by omega];exact q1,q2⟩;rcases zI.1 hx with rfl |hx;refine⟨by omega,?_⟩;rw[ho,Nat.sub_self,List.drop_zero,<-k5,List.take_left' rfl];exact k4;obtain⟨q1,q2⟩:=g5 x hx;refine⟨by omega,?_⟩;rw[show x.offset-o=u0.length+(x.offset-(o+P.cellsOf f.type)) by omega,List.drop_append,List.drop_of_length_le (by omega),List.nil_append,Nat.add_sub_cancel_left];exact q2
theorem qrh{W:World}{P:Program}{fuel:Nat}{cs:List Value}{e:TypeId}{sz:Nat}:∀(n:Nat),n*sz<=cs.length->
  (∀i,i<n->∃us,mV W us ((cs.drop (i*sz)).take sz)/\us.length=((cs.drop (i*sz)).take sz).length/\okL us=true/\OfTy P fuel e us)->
  ∃us,mV W us cs/\us.length=n*sz/\okL us=true/\∀i,i<n->OfTy P fuel e ((us.drop (i*sz)).take sz)
 |0,hl,h=>⟨[],by simp[mV],by simp,rfl,by simp⟩|n+1,hl,h=>by
  rw[Nat.succ_mul]at hl;obtain⟨us,g1,g2,g3,g4⟩:=qrh n (by omega) fun i hi=>h i (by omega);obtain⟨u0,k1,k2,k3,k4⟩:=h n (by omega);have k5:u0.length=sz:=by rw[k2];simp;omega
  refine⟨us++u0,?_,by rw[zU,g2,k5,Nat.succ_mul],G8 g3 k3,fun i hi=>?_⟩;rw[Wz]at k1 g1 ⊢;intro i u hu;rw[List.getElem?_append]at hu;split at hu;exact g1 i u hu;rename_i aG;obtain⟨v,q1,q2⟩:=k1 _ u hu;rw[List.getElem?_take]at q1;split at q1;rw[List.getElem?_drop]at q1;exact⟨v,by rw[g2]at q1 aG;rw[show i=n*sz+(i-n*sz) by omega];exact q1,q2⟩;cases q1;by_cases i9:i<n;have:=g4 i i9;have sG:i*sz+sz<=us.length:=by rw[g2,<-Nat.succ_mul];exact Nat.mul_le_mul_right _ i9
  rw[List.drop_append_of_le_length (by omega),List.take_append_of_le_length (by simp;omega)];exact this;have:i=n:=by omega
  subst this;rw[<-g2,List.drop_left' rfl,<-k5,List.take_length];exact k4
section
variable{v06:Type}{enc:TypeId×Value->v06}{P:Program}{W:World}{TS:List TypeId}(Fs:closedTS P TS=true)
include Fs
omit Fs in
theorem sf{a:Addr}{n:Nat}{cs:List Value}(hn:0<n)(h:W.cells? 0 a n=some cs):∃c e fr,a.spot=none/\W.heap[a.block]? = some (.cells c e fr)/\cs.length=n/\∀(k:Nat)(v:Value),cs[k]? = some v->c.toList[a.off+k]? = some v:=by
 unfold World.cells? at h;simp only[Nat.zero_le,if_true]at h;obtain⟨g1,g2⟩:=qw4 h;obtain⟨v0,k1,k2⟩:=g2 0 0 (by simp[hn]);have tE:a.spot=none:=by have:=World.cell?_spot k2;simpa[Addr.add]using this
 have hadd:∀k,a.add k=⟨a.block,a.off+k,none⟩:=fun k=>by obtain⟨b,o,sp⟩:=a;simp only at tE;subst tE;exact wD b o k
 rw[hadd]at k2;unfold World.cell? at k2;rcases hw:W.heap[a.block]? with _|o;simp[hw]at k2;cases o with
 |cells c e fr=>
  refine⟨c,e,fr,tE,rfl,by simpa using g1,fun k v hk=>?_⟩;have aG:k<n:=by have:=(zG.1 hk).1;rw[g1]at this;simpa using this
  obtain⟨v',q1,q2⟩:=g2 k k (by simp[aG]);rw[hk]at q1;cases q1;rw[hadd]at q2;simp only[World.cell?,hw]at q2;simpa using q2
 |_=>simp[hw]at k2
theorem Wx:∀(fuel:Nat)(t:TypeId),t∈TS->∀(cs:List Value)(x:DataW v06×List MemPlace),DataW.trod enc P W 0 (fun _=>true) true fuel t cs=some x->∃us,mV W us cs/\us.length=cs.length/\okL us=true/\OfTy P fuel t us
 |0,t,ht,cs,x,h=>by simp[DataW.trod]at h
 |fuel+1,t,ht,cs,x,h=>by
  have tC:=List.all_eq_true.1 Fs t ht;unfold U9 at tC;rcases hd:P.underlying t with _|d;simp[hd]at tC;cases d with
  |bool=>obtain⟨b,rfl,_⟩:=DataW.trod_bool hd h;exact⟨[.bool b],by simp[mV,Rep],rfl,rfl,by simp[OfTy,hd]⟩
  |int k=>obtain⟨n,rfl,_,hwf⟩:=DataW.trod_int hd h;exact⟨[.int k n],by simp[mV,Rep],rfl,rfl,by simp[OfTy,hd,hwf]⟩
  |string=>obtain⟨s,rfl,_,dS⟩:=DataW.trod_string hd h;refine⟨[.str s.data.toList],by simp[mV,Rep],rfl,rfl,?_⟩;simp only[OfTy,hd];exact⟨_,rfl,by simpa using dS⟩
  |slice e=>
   simp only[hd]at tC;obtain⟨F',fC⟩:=JK tC;have he:=ud F';have dS:0<P.cellsOf e:=G6 fC;rcases DataW.trod_slice hd h with⟨rfl,_⟩|⟨a,len,cap,BQ,rest,n,jm,rfl,_,_,jg,fg,aU,hel,tE,_⟩;refine⟨[.isl false []],by simp[mV,Rep],rfl,rfl,?_⟩;simp only[OfTy,hd];exact⟨[],rfl,by simp,by simp⟩;have hn:n=fuel:=by omega
   subst hn;have fY:cap<bS:=by unfold bS;unfold maxLen at fg;omega
   have each:∀i,i<len->∃us,us.length=P.cellsOf e/\okL us=true/\OfTy P n e us/\∃c ty fr,a.spot=none/\W.heap[a.block]? = some (.cells c ty fr)/\mV W us (c.toList.drop (a.off+i*P.cellsOf e)):=by
    intro i hi;have h1:=hel i hi;have h2:BQ[i]? = some BQ[i]:=by simp[aU,hi]
    rw[h2]at h1;rcases hc:W.cells? 0 (a.add (i*P.cellsOf e)) (P.cellsOf e)with _|ci;simp[hc]at h1;simp only[hc,Option.bind_some]at h1;obtain⟨us,r1,r2,r3,r4⟩:=Wx n e he ci _ h1;obtain⟨c,ty,fr,k1,k2,k3,k4⟩:=sf dS hc;have XY:a.spot=none:=by
     have h3:=hel 0 (by omega);have h4:BQ[0]? = some (BQ[0]'(by omega)):=by simp[aU,show 0<len by omega]
     rw[h4]at h3;rcases DD:W.cells? 0 (a.add (0*P.cellsOf e)) (P.cellsOf e)with _|c0;rw[DD]at h3;cases h3;obtain⟨_,_,_,q1,_⟩:=sf dS DD;simpa[Addr.add]using q1
    have hadd:a.add (i*P.cellsOf e)=⟨a.block,a.off+i*P.cellsOf e,none⟩:=by obtain⟨b,o,sp⟩:=a;simp only at XY;subst XY;exact wD b o _
    rw[hadd]at k2 k4;refine⟨us,by rw[r2,k3],r3,r4,c,ty,fr,XY,k2,?_⟩;rw[Wz]at r1 ⊢;intro k u hu;obtain⟨v,q1,q2⟩:=r1 k u hu;exact⟨v,by rw[List.getElem?_drop];exact k4 k v q1,q2⟩
   have all:∀m,m<=len->∃l:List (List U),l.length=m/\∀(i:Nat)(us:List U),l[i]? = some us->us.length=P.cellsOf e/\okL us=true/\OfTy P n e us/\∃c ty fr,a.spot=none/\W.heap[a.block]? = some (.cells c ty fr)/\mV W us (c.toList.drop (a.off+i*P.cellsOf e)):=by
    intro m;induction m with
    |zero=>intro _;exact⟨[],rfl,by simp⟩|succ m ih=>
     intro hm;obtain⟨l,l1,l2⟩:=ih (by omega);obtain⟨us,C'⟩:=each m (by omega);refine⟨l++[us],by simp[l1],fun i vs yZ=>?_⟩;rw[List.getElem?_append]at yZ;split at yZ;exact l2 i vs yZ;rename_i HD;have:i=m:=by have:=(zG.1 yZ).1;simp at this;omega
     subst this;rw[l1,Nat.sub_self]at yZ;simp at yZ;subst yZ;exact C'
   obtain⟨l,l1,l2⟩:=all len (zF _);refine⟨[.isl false l],?_,rfl,rfl,?_⟩;simp only[mV,and_true,Rep,true_and];by_cases K4:l=[];subst K4;simp at l1;subst l1;obtain⟨b,o,sp⟩:=a;rcases sp with _|p;exact .inr ⟨b,o,cap,rfl,fY,Nat.zero_le _,.inl rfl⟩;rcases Nat.eq_zero_or_pos cap with h0 |hp;subst h0;exact .inl ⟨rfl,.inr ⟨b,o,p,rfl⟩⟩;exfalso;obtain⟨s1,s2⟩:=tE rfl;have h3:=s2 0 (by omega);have h4:rest[0]? = some (rest[0]'(by omega)):=by simp[s1,hp]
   rw[h4]at h3;rcases DD:W.cells? 0 (Addr.add ⟨b,o,some p⟩ ((0+0)*P.cellsOf e)) (P.cellsOf e)with _|c0;rw[DD]at h3;cases h3;obtain⟨_,_,_,q1,_⟩:=sf dS DD;simp[Addr.add]at q1;obtain⟨Ve,B'⟩:∃Ve,l[0]? = some Ve:=by cases l with
    |nil=>exact absurd rfl K4|cons a l=>exact⟨a,rfl⟩
   obtain⟨_,_,_,c,ty,fr,QY,hw,_⟩:=l2 0 Ve B';refine .inr ⟨a.block,a.off,cap,by obtain⟨b,o,sp⟩:=a;simp only at QY;subst QY;rw[l1],fY,by omega,.inr ⟨c,ty,fr,P.cellsOf e,hw,f? fun i us hi=>?_⟩⟩;obtain⟨q1,q2,_,c',ty',fr',_,uM,q3⟩:=l2 i us hi;rw[hw]at uM;cases uM;exact⟨q1,q2,by rw[List.drop_drop];exact q3⟩;simp only[OfTy,hd];refine⟨l,rfl,by omega,fun us C'=>?_⟩;obtain⟨i,hi⟩:=List.mem_iff_getElem?.1 C';exact(l2 i us hi).2.2.1
  |struct fs=>
   simp only[hd]at tC;obtain⟨hcg,cH⟩:=JK tC;obtain⟨xs,m,jm,_,hl,GW,hf⟩:=DataW.trod_struct hd h;have hm:m=fuel:=by omega
   subst hm;obtain⟨us,g1,g2,g3,_,g5⟩:=qp1 (W:=W) (P:=P) (fuel:=m) (cs:=cs) fs.toList 0 (P.cellsOf t) hcg (by omega) fun f BI=>by
    obtain⟨i,hi⟩:=List.mem_iff_getElem?.1 BI;have h1:=hf i f (by simpa using hi);have h2:i<xs.length:=by rw[GW];have:=(zG.1 hi).1;simpa using this
    rw[show xs[i]? = some xs[i] by simp[h2]]at h1;exact Wx m f.type (ud (List.all_eq_true.1 cH f BI)) _ _ h1
   refine⟨us,by simpa using g1,by omega,g3,?_⟩;simp only[OfTy,hd];exact⟨by omega,fun f BI=>by simpa using(g5 f BI).2⟩
  |array n e=>
   simp only[hd]at tC;obtain⟨F',gI⟩:=JK tC;have he:=ud F';obtain⟨xs,m,jm,_,hl,GW,hf⟩:=DataW.trod_array hd h;have hm:m=fuel:=by omega
   subst hm;have jq:P.cellsOf t=n*P.cellsOf e:=by simpa[beq_eq]using gI
   obtain⟨us,g1,g2,g3,g4⟩:=qrh (W:=W) (P:=P) (fuel:=m) (cs:=cs) (e:=e) (sz:=P.cellsOf e) n (by omega) fun i hi=>by have h1:=hf i hi;rw[show xs[i]? = some xs[i] by simp[GW,hi]]at h1;exact Wx m e he _ _ h1
   refine⟨us,g1,by omega,g3,?_⟩;simp only[OfTy,hd];exact⟨by omega,g4⟩
  |_=>simp[hd]at tC
def OfArg(P:Program)(t:TypeId)(u:U):Prop:=∃fuel us,OfTy P fuel t us/\match P.underlying t with
 |some (.struct _)=>u=.agg us|some (.array _ _)=>u=.agg us
 |_=>us=[u]
def OfArgs(P:Program):List TypeId->List U->Prop
 |[],us=>us=[]|t::ts,us=>∃u Aw,us=u::Aw/\OfArg P t u/\OfArgs P ts Aw
theorem z6e{t:TypeId}(ht:t∈TS){v:Value}{d:DataW v06}{ps:List MemPlace}{r:Reach}{b0:Nat}(eC:Value.okWide P W r b0 t v)(h:DataW.Trod enc P W 0 (fun _=>true) true t v d ps):∃u,Rep W u v/\OfArg P t u:=by
 obtain⟨fuel,hf⟩:=h;obtain⟨us,h1,h2,h3,h4⟩:=Wx Fs fuel t ht _ _ hf;have tC:=List.all_eq_true.1 Fs t ht;unfold U9 at tC;have one:v.cells.toList=[v]->(match P.underlying t with
   |some (.struct _)=>False|some (.array _ _)=>False
   |_=>True)->∃u,Rep W u v/\OfArg P t u:=fun hc hm=>by
  rw[hc]at h1 h2
  match us,h2 with
  |[u],_=>simp only[mV,and_true]at h1;refine⟨u,h1,fuel,[u],h4,?_⟩;split<;>simp_all
 have agg:(∃cs,v=.agg cs)->(match P.underlying t with
   |some (.struct _)=>True|some (.array _ _)=>True
   |_=>False)->∃u,Rep W u v/\OfArg P t u:=fun⟨cs,hc⟩ hm=>by
  subst hc;refine⟨.agg us,?_,fuel,us,h4,?_⟩;simp only[Rep];exact⟨cs.toList,rfl,h1,h2,h3⟩;split<;>simp_all
 unfold Value.okWide at eC;rcases hd:P.underlying t with _|dd;simp[hd]at tC;cases dd with
 |struct fs=>simp only[hd]at eC;obtain⟨cs,hc,_⟩:=eC;exact agg ⟨cs,hc⟩ (by simp[hd])
 |array n e=>simp only[hd]at eC;obtain⟨cs,hc,_⟩:=eC;exact agg ⟨cs,hc⟩ (by simp[hd])
 |bool=>refine one ?_ (by simp[hd]);simp only[hd,Cell.okWide]at eC;cases v<;>first |rfl |(simp[Cell.ok,hd]at eC)
 |int k=>refine one ?_ (by simp[hd]);simp only[hd,Cell.okWide]at eC;cases v<;>first |rfl |(simp[Cell.ok,hd]at eC)
 |string=>refine one ?_ (by simp[hd]);simp only[hd,Cell.okWide]at eC;cases v<;>first |rfl |(simp[Cell.ok,hd]at eC)
 |slice e=>refine one ?_ (by simp[hd]);simp only[hd,Cell.okWide]at eC;cases v<;>first |rfl |(simp[Cell.ok,hd]at eC)
 |_=>simp[hd]at tC
theorem args_rep:∀{ts:List TypeId}{vs:List Value}{ds:List (DataW v06)}{ps:List MemPlace}{r:Reach}{b0:Nat},(∀t∈ts,t∈TS)->(∀(j:Nat) t v,ts[j]? = some t->vs[j]? = some v->Value.okWide P W r b0 t v)->DataW.TrodAll enc P W 0 (fun _=>true) true ts vs ds ps->
  ∃us,mV W us vs/\us.length=vs.length/\OfArgs P ts us
 |[],[],[],ps,r,b0,ht,eC,h=>⟨[],by simp[mV],rfl,rfl⟩|t::ts,v::vs,d::ds,ps,r,b0,ht,eC,h=>by obtain⟨p,q,h1,h2,_⟩:=h;obtain⟨u,g1,g2⟩:=z6e Fs (ht t (by simp)) (eC 0 t v rfl rfl) h1;obtain⟨us,k1,k2,k3⟩:=args_rep (fun x hx=>ht x (by simp[hx])) (fun j x y h3 h4=>eC (j+1) x y (by simpa using h3) (by simpa using h4)) h2;exact⟨u::us,by simp[mV,g1,k1],by simp[k2],u,us,rfl,g2,k3⟩
 |[],_::_,_,ps,r,b0,ht,eC,h=>by simp[DataW.TrodAll]at h
 |[],[],_::_,ps,r,b0,ht,eC,h=>by simp[DataW.TrodAll]at h
 |_::_,[],_,ps,r,b0,ht,eC,h=>by simp[DataW.TrodAll]at h
 |_::_,_::_,[],ps,r,b0,ht,eC,h=>by simp[DataW.TrodAll]at h
end
def MQ:Option lB->Option lB
 |some (.inl (l,e,1))=>some (.inl (l,e,1))|_=>none
def Be(g:Nat->Option lB):Hp->Hp
 |[]=>[]|(i,_)::h=>match g i with
  |some b=>(i,b)::Be g h|none=>Be g h
theorem x?(g:Nat->Option lB):∀(h:Hp)(i:Nat),lk (Be g h) i=(match lk h i with |some _=>g i |none=>none)
 |[],i=>by simp[Be,lk]
 |(j,b)::h,i=>by
  have ih:=x? g h i;simp only[Be];cases hg:g j with
  |none=>simp only[m5];by_cases e:j=i;subst e;simp only[if_true];rw[ih,hg];split<;>rfl;simp only[e,if_false];exact ih|some c=>simp only[m5];by_cases e:j=i;subst e;simp[hg];simp only[e,if_false];exact ih
def CH(s:S):S:=⟨Be (fun i=>MQ (lk s.h i)) s.h,s.nx⟩
theorem VB(s:S)(i:Nat):lk (CH s).h i=MQ (lk s.h i):=by
 simp only[CH,x?];rcases h:lk s.h i with _|b;rfl;simp
theorem Km{o:Option lB}{b:lB}(h:MQ o=some b):o=some b/\∃l e,b=.inl (l,e,1):=by
 unfold MQ at h;split at h;simp at h;subst h;exact⟨rfl,_,_,rfl⟩;cases h
theorem qp3(s:S):Less s (CH s):=⟨zF _,fun i b hb=>by rw[VB]at hb;exact(Km hb).1⟩
theorem bA.view{P:Program}{f:FuncId}{args args':List U}{O:Sg}{u:U}{v:Value}(h:bA P f args ⟨[],0⟩ (fun u' _=>u'=u/\b7 0 u'))(ha:aN 0 args)(hu:toV u=some v)(zE:∀m,aH m v=v){O1:Sg}(hg:Gh 0 args' O args O1):bA P f args' O (fun u' O'=>u'=u/\O'=O):=fun F x vs m w bH hx hh m9 he fH d9=>by
 obtain⟨y1,a1,a2,a3,a4,a5,a6⟩:=hg F x vs hx hh m9 he;have iK:=a1 m w fH;have dA:=bP.less iK.fits (qp3 y1.s);have fM:Mo 0 y1 (cx (CH y1.s)):=⟨fun k hk=>by omega,fun i row e hl=>by show lk (CH y1.s).h i=_;rw[VB,hl];rfl⟩;have hJ:∀b,¬ O9 m (CH y1.s) b:=fun b ⟨i,c,hc,ho,_⟩=>by rw[VB]at hc;obtain⟨_,l,e,rfl⟩:=Km hc;simp[Own]at ho
 refine(h (fun _ _=>False) (cx (CH y1.s)) vs m w bH rfl ⟨fun k b hb=>by simp[cx,gt]at hb,fun k k' b b' i hb=>by simp[cx,gt]at hb,fun i b hb=>?_⟩ (fun _ _ J=>J.elim) (fM.ke.E ha a5) dA.fits (d9.ext (aK.refl _ _) (Nat.le_trans iK.nx dA.nx))).mono ?_;have cQ:lk (CH y1.s).h i=some b:=hb;rw[VB]at cQ;exact a3.bd i b (Km cQ).1;rintro e n9 ⟨y2,CV,u',v',cv,rfl,⟨rfl,_⟩,aR,fX,_,_,B9,_,_⟩;have hv:=(xT u' v hu y2 v').1 B9;subst hv;have fc:cv=v':=by rw[<-fX.at,zE]
 subst fc;have wJ:∀b,b<w.heap.size->n9.heap[b]? = w.heap[b]?:=fun b aG=>aR.same b aG (hJ b);refine⟨x,m,u',cv,cv,rfl,⟨rfl,hx⟩,⟨aK.refl _ _,zF _,fun m' eG=>?_,fun b h=>.inl h,fun b aG _=>wJ b aG,aR.size,aR.os,aR.tape,aR.output⟩,fun m' _=>zE m',hh,m9,(xT u' cv hu x cv).2 rfl,Ke.refl _ _,zF _⟩;have BI:=fH m' eG;exact⟨fun i b hb=>(BI.ok i b hb).world (wJ _ (BI.size hb)),BI.inj,BI.bd⟩
abbrev RK:=Nat×eI
def RH(P:Program)(T:Tb)(aA:List Oper):List Oper->List U->Sg->List RK->(List RK->List U->Sg->Prop)->Prop
 |[],tm,O,aY,K=>K aY tm O|o::r,tm,O,aY,K=>(cP aA tm o=some true/\∃u,bO T O tm o.op=some (u,O)/\RH P T aA r (eH tm o.dst u) O ((1,⟨tm,o,u,false,false,O,O⟩)::aY) K)\/ (cP aA tm o=some true/\∃u O',bO T O tm o.op=some (u,O')/\RH P T aA r (eH tm o.dst u) O' ((3,⟨tm,o,u,true,true,O,O'⟩)::aY) K)\/ (cP aA tm o=some true/\∃f args u,jL T tm o.op=some (f,args)/\bA P f args O (fun u' O'=>u'=u/\O'=O)/\RH P T aA r (eH tm o.dst u) O ((2,⟨tm,o,u,true,false,O,O⟩)::aY) K)\/ (cP aA tm o=some true/\∃f args u O',jL T tm o.op=some (f,args)/\bA P f args O (fun u' s'=>u'=u/\s'=O')/\RH P T aA r (eH tm o.dst u) O' ((3,⟨tm,o,u,true,true,O,O'⟩)::aY) K)\/ (cP aA tm o=some false/\RH P T aA r (eH tm o.dst (.tup [])) O ((0,⟨tm,o,.tup [],false,false,O,O⟩)::aY) K)\/ (cP aA tm o=some true/\∃u,EE P T tm o.op u/\RH P T aA r (eH tm o.dst u) O ((0,⟨tm,o,u,false,false,O,O⟩)::aY) K)\/ (cP aA tm o=some true/\∃u1 s1 d u O',bO T O tm o.op=some (u1,s1)/\o.dst=some d/\d<tm.length/\Gh s1.nx [u1] s1 [u] O'/\s1.nx<=O'.nx/\RH P T aA r (eH tm o.dst u) O' ((3,⟨tm,o,u,true,true,O,O'⟩)::aY) K)
def kindOk(T:Tb)(aA:List Oper)(x:RK):Prop :=
 (x.1=0/\(cP aA x.2.tm x.2.o=some false\/bO T x.2.s x.2.tm x.2.o.op≠some (x.2.u,x.2.s'))/\x.2.act=false/\x.2.mv=false)\/(x.1=1/\x.2.act=false/\x.2.mv=false)\/(x.1=2/\x.2.act=true/\x.2.mv=false)\/(x.1=3/\x.2.act=true/\x.2.mv=true)
theorem RD.mono{P:Program}{T:Tb}{aA:List Oper}:∀{rest:List Oper}{tm:List U}{O:Sg}{K K':List eI->List U->Sg->Prop},(∀rs tm O,K rs tm O->K' rs tm O)->RD P T aA rest tm O K->RD P T aA rest tm O K'
 |[],tm,O,K,K',hk,h=>hk _ _ _ h|o::rest,tm,O,K,K',hk,h=>by simp only[RD]at h ⊢;rcases h with⟨hw,u,h1,h2⟩|⟨hw,u,O1,h1,h2⟩|⟨hw,f,args,u,h1,h2,h3⟩|⟨hw,f,args,u,O1,h1,h2,h3⟩|⟨hw,h1⟩|⟨hw,u,h1,h3⟩|⟨hw,u1,s1,d,u,O1,h1,h2,h3,h4,h5,h6⟩;exact .inl ⟨hw,u,h1,RD.mono (fun _ _ _ h=>hk _ _ _ h) h2⟩;exact .inr (.inl ⟨hw,u,O1,h1,RD.mono (fun _ _ _ h=>hk _ _ _ h) h2⟩);exact .inr (.inr (.inl ⟨hw,f,args,u,h1,h2,RD.mono (fun _ _ _ h=>hk _ _ _ h) h3⟩));exact .inr (.inr (.inr (.inl ⟨hw,f,args,u,O1,h1,h2,RD.mono (fun _ _ _ h=>hk _ _ _ h) h3⟩)));exact .inr (.inr (.inr (.inr (.inl ⟨hw,RD.mono (fun _ _ _ h=>hk _ _ _ h) h1⟩))));exact .inr (.inr (.inr (.inr (.inr (.inl ⟨hw,u,h1,RD.mono (fun _ _ _ h=>hk _ _ _ h) h3⟩)))));exact .inr (.inr (.inr (.inr (.inr (.inr ⟨hw,u1,s1,d,u,O1,h1,h2,h3,h4,h5,RD.mono (fun _ _ _ h=>hk _ _ _ h) h6⟩)))))
theorem RH.rd{P:Program}{T:Tb}{aA:List Oper}:∀{rest:List Oper}{tm:List U}{O:Sg}{aY:List RK}{K:List RK->List U->Sg->Prop},RH P T aA rest tm O aY K->
  RD P T aA rest tm O (fun rs tm' O'=>∃ks:List RK,ks.map (·.2)=rs/\(∀x∈ks,kindOk T aA x)/\K (ks.reverse++aY) tm' O')
 |[],tm,O,aY,K,h=>⟨[],rfl,by simp,h⟩|o::rest,tm,O,aY,K,h=>by
  have step:∀(k:RK),kindOk T aA k->∀(rs:List eI)(tm':List U)(O':Sg),(∃ks:List RK,ks.map (·.2)=rs/\(∀x∈ks,kindOk T aA x)/\K (ks.reverse++k::aY) tm' O')->
    ∃ks:List RK,ks.map (·.2)=k.2::rs/\(∀x∈ks,kindOk T aA x)/\K (ks.reverse++aY) tm' O':=by
   rintro k hk rs tm' O' ⟨ks,h1,h2,h3⟩;refine⟨k::ks,by simp[h1],?_,by simpa using h3⟩;intro x hx;rcases zI.1 hx with rfl |hx;exact hk;exact h2 x hx
  simp only[RH]at h;simp only[RD];rcases h with⟨hw,u,h1,h2⟩|⟨hw,u,O1,h1,h2⟩|⟨hw,f,args,u,h1,h2,h3⟩|⟨hw,f,args,u,O1,h1,h2,h3⟩|⟨hw,h1⟩|⟨hw,u,h1,h3⟩|⟨hw,u1,s1,d,u,O1,h1,h2,h3,h4,h5,h6⟩;exact .inl ⟨hw,u,h1,RD.mono (step (1,_) (.inr (.inl ⟨rfl,rfl,rfl⟩))) (RH.rd h2)⟩;exact .inr (.inl ⟨hw,u,O1,h1,RD.mono (step (3,_) (.inr (.inr (.inr ⟨rfl,rfl,rfl⟩)))) (RH.rd h2)⟩);exact .inr (.inr (.inl ⟨hw,f,args,u,h1,h2,RD.mono (step (2,_) (.inr (.inr (.inl ⟨rfl,rfl,rfl⟩)))) (RH.rd h3)⟩));exact .inr (.inr (.inr (.inl ⟨hw,f,args,u,O1,h1,h2,RD.mono (step (3,_) (.inr (.inr (.inr ⟨rfl,rfl,rfl⟩)))) (RH.rd h3)⟩)));exact .inr (.inr (.inr (.inr (.inl ⟨hw,RD.mono (step (0,_) (.inl ⟨rfl,.inl hw,rfl,rfl⟩)) (RH.rd h1)⟩))));exact .inr (.inr (.inr (.inr (.inr (.inl ⟨hw,u,h1,RD.mono (step (0,_) (.inl ⟨rfl,.inr (h1.noop _),rfl,rfl⟩)) (RH.rd h3)⟩)))));exact .inr (.inr (.inr (.inr (.inr (.inr ⟨hw,u1,s1,d,u,O1,h1,h2,h3,h4,h5,RD.mono (step (3,_) (.inr (.inr (.inr ⟨rfl,rfl,rfl⟩)))) (RH.rd h6)⟩)))))
def allI{X:Type}(p:Nat->X->Bool):Nat->List X->Bool
 |_,[]=>true|b,x::l=>p b x&&allI p (b+1) l
theorem ue{X:Type}{p:Nat->X->Bool}:∀{b:Nat}{l:List X},allI p b l=true->∀{j:Nat}{x:X},l[j]? = some x->p (b+j) x=true
 |b,[],_,j,x,hx=>by simp at hx
 |b,y::l,h,j,x,hx=>by
  simp only[allI,Bool.and_eq_true]at h;cases j with
  |zero=>simp at hx;subst hx;exact h.1|succ j=>
   simp only[zH]at hx;have:=ue h.2 hx
   rwa [show b+1+j=b+(j+1) by omega]at this
def Ez(k:Nat):Nat:=cond (Nat.beq k 3) 1 0
def trip:Nat->List Nat->List Nat->List (Nat×Nat×Nat)
 |c,k::ks,m::ms=>(k,m,c)::trip (c+Ez k) ks ms|_,_,_=>[]
def oP:List Nat->Nat
 |[]=>0|k::ks=>Ez k+oP ks
theorem V_:∀(ks ms:List Nat)(c j k m:Nat),ks[j]? = some k->ms[j]? = some m->(trip c ks ms)[j]? = some (k,m,c+oP (ks.take j))
 |[],_,c,j,k,m,h,_=>by simp at h
 |_::_,[],c,j,k,m,_,h=>by simp at h
 |k0::ks,m0::ms,c,0,k,m,h1,h2=>by simp at h1 h2;subst h1;subst h2;simp[trip,oP]
 |k0::ks,m0::ms,c,j+1,k,m,h1,h2=>by simp only[zH]at h1 h2;simp only[trip,zH,List.take_succ_cons,oP];rw[V_ ks ms _ j k m h1 h2];simp only[Nat.add_assoc]
def CW(i k:Nat):List (Nat×Nat)->Bool
 |[]=>false|p::l=>(Nat.beq i p.1&&Nat.beq k p.2)||CW i k l
theorem mn{i k:Nat}:∀{l:List (Nat×Nat)},CW i k l=true->(i,k)∈l
 |[],h=>by simp[CW]at h
 |p::l,h=>by simp only[CW,Bool.or_eq_true,Bool.and_eq_true]at h;rcases h with⟨h1,h2⟩|h;rw[Nat.eq_of_beq_eq_true h1,Nat.eq_of_beq_eq_true h2];simp;exact List.mem_cons_of_mem _ (mn h)
def Of(pr:List (Nat×Nat))(i:Nat)(a:Nat×Nat×Nat)(k:Nat)(b:Nat×Nat×Nat):Bool :=
 cond (Nat.ble 2 b.1) (cond (Nat.ble 2 a.1) (cond (Nat.blt k i) (Nat.testBit a.2.1 k) true) (cond (Nat.beq a.1 1) (cond (Nat.blt k i) (Nat.testBit a.2.1 k||(Nat.beq b.2.2 a.2.2||CW i k pr)) (Nat.testBit b.2.1 i||(Nat.beq a.2.2 (b.2.2+Ez b.1)||CW i k pr)))
    true))
  true
def flE(aA:List Oper)(ks:List Nat)(pr:List (Nat×Nat)):Bool :=
 let L:=trip 0 ks (eA aA [])
 allI (fun i a=>allI (fun k b=>Of pr i a k b) 0 L) 0 L
def Vv(T:Tb)(ks:List RK)(p:Nat×Nat):Prop:=match nth ks p.1,nth ks p.2 with
 |some r,some q=>cond (Nat.blt p.2 p.1) (bO T q.2.s r.2.tm r.2.o.op=some (r.2.u,q.2.s)) (bO T q.2.s' r.2.tm r.2.o.op=some (r.2.u,q.2.s'))|_,_=>False
def Wr(T:Tb)(ks:List RK):List (Nat×Nat)->Prop
 |[]=>True|p::l=>Vv T ks p/\Wr T ks l
theorem gv{T:Tb}{ks:List RK}:∀{l:List (Nat×Nat)},Wr T ks l->∀p∈l,Vv T ks p
 |[],_,p,hp=>by cases hp
 |q::l,h,p,hp=>by rcases zI.1 hp with rfl |hp;exact h.1;exact gv h.2 p hp
theorem z37{ks:List Nat}:∀{q p:Nat},p<=q->q<=ks.length->oP (ks.take p)=oP (ks.take q)->∀(e k:Nat),p<=e->e<q->ks[e]? = some k->k≠3
 |q,p,R1,hq,h,e,k,h1,h2,h3=>by
  have mono:∀(l:List Nat)(a b:Nat),a<=b->oP (l.take a)<=oP (l.take b):=by
   intro l;induction l with
   |nil=>intro a b _;simp[oP]|cons x l ih=>
    intro a b EX;cases a with
    |zero=>simp[oP]|succ a=>cases b with|zero=>omega|succ b=>simp only[List.take_succ_cons,oP];have:=ih a b (by omega);omega
  have succ:∀(l:List Nat)(a k:Nat),l[a]? = some k->oP (l.take (a+1))=oP (l.take a)+Ez k:=by
   intro l;induction l with
   |nil=>intro a k h;simp at h|cons x l ih=>
    intro a k h;cases a with
    |zero=>simp at h;subst h;simp[oP]|succ a=>simp only[zH]at h;simp only[List.take_succ_cons,oP];rw[ih a k h];omega
  intro hk;have a1:=mono ks p e h1;have a2:=succ ks e k h3;have a3:=mono ks (e+1) q (by omega);rw[hk]at a2;have:Ez 3=1:=rfl;omega
section
variable{C:PG}{T:Tb}(hT:kS C.prog T){n0:Nat}{Q:Exit->List U->Sg->Prop}{tm:List U}{O:Sg}
include hT
theorem WPU.drawE {id : Nat} {aA : Array Oper} (pr : List (Nat × Nat)) (c8 : VJ aA.toList = true)
    (h:RH C.prog T aA.toList aA.toList tm O [] (fun ks tm' O'=> flE aA.toList (ks.reverse.map (·.1)) pr=true/\Wr T ks.reverse pr/\Q .normal tm' O')):WPU C n0 (.region id aA true) tm O Q:=by
  obtain⟨rs,tm',O',⟨ks,qW,jh,DA,zP,hQ⟩,g2,g3,g4,g5⟩:=OK _ _ _ _ (RH.rd h);simp only[List.append_nil,List.reverse_reverse]at DA zP;have iY:kj C.prog T aA.toList tm O rs tm' O':=⟨g2,g3,g4,fun i r hr=> by obtain⟨a,b,c,d,_⟩:=g5 i r hr;exact⟨a,b,c,d⟩⟩;have same : ∀(p q:Nat),p<=q->q<=rs.length->(∀(e:Nat)(r:eI),p<=e->e<q->rs[e]? = some r->r.mv=false)->jE rs O' p=jE rs O' q:=by
    intro p q R1 hq hJ;induction q with
    | zero => have : p = 0 := by omega
              rw[this]
    |succ q ih=>
      rcases Nat.lt_or_ge q p with h |h;have:p=q+1:=by omega
      rw[this];rw[ih h (by omega) fun e r h1 h2 h3=> hJ e r h1 (by omega) h3];have hr:rs[q]? = some rs[q]:=by simp[show q<rs.length by omega]
      obtain⟨_,_,k3,_,k5,_⟩:=g5 q _ hr;rw[k3,k5 (hJ q _ h (zN _) hr)];simp[jE,hr]
  have aU:ks.length=rs.length:=by rw[<-qW];simp
  have at_ : ∀(i:Nat)(r:eI),rs[i]? = some r->∃k,ks[i]? = some (k,r)/\kindOk T aA.toList (k,r):=by intro i r hr;rw[<-qW]at hr;simp only[List.getElem?_map]at hr;rcases hk:ks[i]? with _|x;rw[hk]at hr;simp at hr;obtain⟨k,r'⟩:=x;rw[hk]at hr;simp at hr;subst hr;exact⟨k,rfl,jh _ (zX hk)⟩
  have trp : ∀(i k:Nat)(r:eI),ks[i]? = some (k,r)->∃m,(eA aA.toList [])[i]? = some m/\(trip 0 (ks.map (·.1)) (eA aA.toList []))[i]? = some (k,m,oP ((ks.map (·.1)).take i)):=by
    intro i k r hk;obtain⟨m1,_,_⟩:=pc aA.toList [];have hi:i<aA.toList.length:=by rw[<-g2, <-aU];exact(zG.1 hk).1
    have hm:i<(eA aA.toList []).length:=by rw[m1];simpa using hi
    refine⟨(eA aA.toList [])[i],by simp[hm], ?_⟩;have:=V_ (ks.map (·.1)) (eA aA.toList []) 0 i k _ (by simp[hk]) (show(eA aA.toList [])[i]? = some (eA aA.toList [])[i] by simp[hm])
    rwa [Nat.zero_add]at this
  have chk : ∀ (i k ki kk : Nat) (r q : eI), ks[i]? = some (ki, r) -> ks[k]? = some (kk, q) -> ∃ mi mk, (eA aA.toList [])[i]? = some mi /\ (eA aA.toList [])[k]? = some mk /\
      Of pr i (ki,mi,oP ((ks.map (·.1)).take i)) k (kk,mk,oP ((ks.map (·.1)).take k))=true:=by
    intro i k ki kk r q hi hk;obtain⟨mi,e1,e2⟩:=trp i ki r hi;obtain⟨mk,e3,e4⟩:=trp k kk q hk;refine⟨mi,mk,e1,e3, ?_⟩;have h1:=ue DA e2;have h2:=ue h1 e4;simpa using h2
  have nomv : ∀(p q:Nat),p<=q->q<=rs.length->oP ((ks.map (·.1)).take p)=oP ((ks.map (·.1)).take q)->jE rs O' p=jE rs O' q:=by
    intro p q R1 hq hc;refine same p q R1 hq fun e r h1 h2 h3=> ?_;obtain⟨k,hk,Qq⟩:=at_ e r h3;have:=z37 R1 (by simp;omega) hc e k h1 h2 (by simp[hk]);rcases Qq with h |h |h |h
    exact h.2.2.2;exact h.2.2;exact h.2.2;exact absurd h.1 this
  have kact : ∀(i:Nat)(r:eI),rs[i]? = some r->r.act=true->∃k,ks[i]? = some (k,r)/\Nat.ble 2 k=true:=by intro i r hr ha;obtain⟨k,hk,Qq⟩:=at_ i r hr;refine⟨k,hk, ?_⟩;rcases Qq with h |h |h |h;have:=h.2.2.1;simp only[]at this;rw[ha]at this;cases this;have:=h.2.1;simp only[]at this;rw[ha]at this;cases this;have:=h.1;simp only[]at this;subst this;rfl;have:=h.1;simp only[]at this;subst this;rfl
  have kqu : ∀(i:Nat)(r:eI),rs[i]? = some r->r.act=false->cP aA.toList r.tm r.o=some true->bO T r.s r.tm r.o.op=some (r.u,r.s')->ks[i]? = some (1,r):=by intro i r hr ha hw hl;obtain⟨k,hk,Qq⟩:=at_ i r hr;rcases Qq with h |h |h |h;rcases h.2.1 with h' |h';simp only[]at h';rw[hw]at h';cases h';exact absurd hl h';have:=h.1;simp only[]at this;subst this;exact hk;have:=h.2.1;simp only[]at this;rw[ha]at this;cases this;have:=h.2.1;simp only[]at this;rw[ha]at this;cases this
  have succ : ∀(l:List Nat)(a k:Nat),l[a]? = some k->oP (l.take (a+1))=oP (l.take a)+Ez k:=by
    intro l;induction l with
    |nil=> intro a k h;simp at h|cons x l ih=>
      intro a k h;cases a with
      |zero=> simp at h;subst h;simp[oP]|succ a=> simp only[zH]at h;simp only[List.take_succ_cons,oP];rw[ih a k h];omega
  refine WPU.drawn hT c8 iY ⟨fun i k r q hr hq ha hb aG=> ?_,fun i k r q hr hq ha hw hl hb aG=> ?_,fun i k r q hr hq ha hw hl hb aG=> ?_⟩ (fun i r hr h=> (g5 i r hr).2.2.2.2.2 h) hQ;obtain⟨ki,h1,h2⟩:=kact i r hr ha;obtain⟨kk,h3,h4⟩:=kact k q hq hb;obtain⟨mi,mk,e1,e2,e3⟩:=chk i k ki kk r q h1 h3;simp only[Of,h2,h4,zC,pN aG]at e3;exact⟨mi,e1,e3⟩;have h1:=kqu i r hr ha hw hl;obtain⟨kk,h3,h4⟩:=kact k q hq hb;obtain⟨mi,mk,e1,e2,e3⟩:=chk i k 1 kk r q h1 h3;have y7:Nat.ble 2 1=false:=rfl;have sH:Nat.beq 1 1=true:=rfl;simp only[Of,y7,sH,h4,zC,zD,pN aG,Bool.or_eq_true]at e3;rcases e3 with e3 |e3 |e3;exact .inl ⟨mi,e1,e3⟩;have:=nomv k i (by omega) (by have:=(zG.1 hr).1;omega) (Nat.eq_of_beq_eq_true e3);exact .inr (.inl (by simpa[jE,hr,hq]using this));have:=gv zP _ (mn e3);simp only[Vv,iQ,h1,h3,pN aG,zC]at this;exact .inr (.inr this);have h1:=kqu i r hr ha hw hl;obtain⟨kk,h3,h4⟩:=kact k q hq hb;obtain⟨mi,mk,e1,e2,e3⟩:=chk i k 1 kk r q h1 h3;have y7:Nat.ble 2 1=false:=rfl;have sH:Nat.beq 1 1=true:=rfl;simp only[Of,y7,sH,h4,zC,zD,JF (show ¬ k<i by omega),Bool.or_eq_true]at e3;rcases e3 with e3 |e3 |e3;exact .inl ⟨mk,e2,e3⟩;have hc:oP ((ks.map (·.1)).take i)=oP ((ks.map (·.1)).take (k+1)):=by rw[succ _ k kk (by simp[h3])];exact Nat.eq_of_beq_eq_true e3
  have:=nomv i (k+1) (by omega) (by have:=(zG.1 hq).1;omega) hc;have h2:=(iY.all k q hq).2.2.1;rw[h2]at this;exact .inr (.inl (by simpa[jE,hr]using this.symm));have:=gv zP _ (mn e3);simp only[Vv,iQ,h1,h3,JF (show ¬ k<i by omega),zD]at this;exact .inr (.inr this)
end
theorem RH.call{P:Program}{T:Tb}{aA r:List Oper}{o:Oper}{tm:List U}{O:Sg}{aY:List RK}{K:List RK->List U->Sg->Prop}{f:FuncId}{args:List U}{u:U}(hw:cP aA tm o=some true)(hc:jL T tm o.op=some (f,args))(kE:bA P f args O (fun u' O'=>u'=u/\O'=O))
  (h:RH P T aA r (eH tm o.dst u) O ((2,⟨tm,o,u,true,false,O,O⟩)::aY) K):RH P T aA (o::r) tm O aY K:=.inr (.inr (.inl ⟨hw,f,args,u,hc,kE,h⟩))
theorem RH.callM{P:Program}{T:Tb}{aA r:List Oper}{o:Oper}{tm:List U}{O O1:Sg}{aY:List RK}{K:List RK->List U->Sg->Prop}{f:FuncId}{args:List U}{u:U}(hw:cP aA tm o=some true)(hc:jL T tm o.op=some (f,args))(kE:bA P f args O (fun u' O'=>u'=u/\O'=O1))
  (h:RH P T aA r (eH tm o.dst u) O1 ((3,⟨tm,o,u,true,true,O,O1⟩)::aY) K):RH P T aA (o::r) tm O aY K:=.inr (.inr (.inr (.inl ⟨hw,f,args,u,O1,hc,kE,h⟩)))
mutual
def rU(Z:Nat->Nat):U->U
 |.ptr k st off=>.ptr (Z k) st off|.sl k off n c=>.sl (Z k) off n c
 |.vl k st off n=>.vl (Z k) st off n|.map k=>.map (Z k)
 |.iptr l=>.iptr (iD Z l)|.isl t l=>.isl t (vZ Z l)
 |.fn f a b=>.fn f (iD Z a) (iD Z b)|.agg l=>.agg (iD Z l)
 |.tup l=>.tup (iD Z l)|u=>u
def iD(Z:Nat->Nat):List U->List U
 |[]=>[]|u::l=>rU Z u::iD Z l
def vZ(Z:Nat->Nat):List (List U)->List (List U)
 |[]=>[]|c::l=>iD Z c::vZ Z l
end
theorem CM(Z:Nat->Nat):∀l,(iD Z l).length=l.length
 |[]=>rfl|u::l=>by simp[iD,CM Z l]
theorem Bx(Z:Nat->Nat):∀l,(vZ Z l).length=l.length
 |[]=>rfl|u::l=>by simp[vZ,Bx Z l]
theorem Og(Z:Nat->Nat)(u:U):okC (rU Z u)=okC u:=by cases u<;>simp[rU,okC]
theorem FV(Z:Nat->Nat):∀l,okL (iD Z l)=okL l
 |[]=>rfl|u::l=>by simp[iD,okL,Og,FV Z l]
structure T0(n:Nat)(Z:Nat->Nat)(x y:Cx):Prop where
 ptr:∀k st off v,k<n->aD x (.ptr k st off) v->aD y (.ptr (Z k) st off) v
 sl:∀k off m c v,k<n->aD x (.sl k off m c) v->aD y (.sl (Z k) off m c) v
 vl:∀k st off m v,k<n->aD x (.vl k st off m) v->aD y (.vl (Z k) st off m) v
 map:∀k v,k<n->aD x (.map k) v->aD y (.map (Z k)) v
 imm:∀i row e,lk x.s.h i=some (.inl (row,e,1))->lk y.s.h i=some (.inl (row,e,1))
mutual
theorem aD.leaf{n:Nat}{Z:Nat->Nat}{x y:Cx}(h:T0 n Z x y):(u:U)->(v:Value)->b7 n u->aD x u v->aD y (rU Z u) v
 |.junk,v,_,_=>by simp[rU,aD]
 |.bool b,v,_,hr=>by simpa[rU,aD]using hr
 |.int k z,v,_,hr=>by simpa[rU,aD]using hr
 |.str l,v,_,hr=>by simpa[rU,aD]using hr
 |.nilp,v,_,hr=>by simpa[rU,aD]using hr
 |.ptr k st off,v,hb,hr=>h.ptr k st off v (by simpa[b7]using hb) hr|.iptr l,v,hb,hr=>by simp only[rU,aD]at*;obtain⟨i,off,row,e,h1,h2,h3,h4⟩:=hr;exact⟨i,off,row,e,h1,h.imm _ _ _ h2,cD.leaf h l _ (by simpa[b7]using hb) h3,by rw[FV];exact h4⟩
 |.nils,v,_,hr=>by simpa[rU,aD]using hr
 |.sl k off m c,v,hb,hr=>h.sl k off m c v (by simpa[b7]using hb) hr|.vl k st off m,v,hb,hr=>h.vl k st off m v (by simpa[b7]using hb) hr
 |.isl t l,v,hb,hr=>by simp only[rU,aD]at*;rcases hr with⟨rfl,hr⟩|⟨i,off,c,h1,h2,h3⟩;exact .inl ⟨rfl,hr⟩;rw[Bx];refine .inr ⟨i,off,c,h1,h2,?_⟩;rcases h3 with rfl |⟨row,e,sz,g1,g2,g3⟩;exact .inl rfl;exact .inr ⟨row,e,sz,h.imm _ _ _ g1,gU.leaf h l _ (by simpa[b7]using hb) g2,g3⟩
 |.nilm,v,_,hr=>by simpa[rU,aD]using hr
 |.map k,v,hb,hr=>h.map k v (by simpa[b7]using hb) hr|.fn f a b,v,hb,hr=>by simp only[rU,aD]at*;obtain⟨va,vb,h1,h2,h3,h4,h5⟩:=hr;simp only[b7]at hb;exact⟨va,vb,h1,cD.leaf h a _ hb.1 h2,by rw[CM];exact h3,cD.leaf h b _ hb.2 h4,by rw[CM];exact h5⟩
 |.nilf,v,_,hr=>by simpa[rU,aD]using hr
 |.nili,v,_,hr=>by simpa[rU,aD]using hr
 |.agg l,v,hb,hr=>by simp only[rU,aD]at*;obtain⟨vs,h1,h2,h3,h4⟩:=hr;exact⟨vs,h1,cD.leaf h l _ (by simpa[b7]using hb) h2,by rw[CM];exact h3,by rw[FV];exact h4⟩
 |.tup l,v,hb,hr=>by simp only[rU,aD]at*;obtain⟨vs,h1,h2,h3⟩:=hr;exact⟨vs,h1,cD.leaf h l _ (by simpa[b7]using hb) h2,by rw[CM];exact h3⟩
theorem cD.leaf{n:Nat}{Z:Nat->Nat}{x y:Cx}(h:T0 n Z x y):(l:List U)->(vs:List Value)->aN n l->cD x l vs->cD y (iD Z l) vs
 |[],vs,_,_=>by simp[iD,cD]
 |u::l,[],_,hr=>by simp[cD]at hr
 |u::l,v::vs,hb,hr=>by simp only[iD,cD,aN]at*;exact⟨aD.leaf h u v hb.1 hr.1,cD.leaf h l vs hb.2 hr.2⟩
theorem gU.leaf{n sz:Nat}{Z:Nat->Nat}{x y:Cx}(h:T0 n Z x y):(l:List (List U))->(vs:List Value)->lX n l->gU x sz l vs->gU y sz (vZ Z l) vs
 |[],vs,_,_=>by simp[vZ,gU]
 |c::l,vs,hb,hr=>by simp only[vZ,gU,lX]at*;exact⟨by rw[CM];exact hr.1,by rw[FV];exact hr.2.1,cD.leaf h c vs hb.1 hr.2.2.1,gU.leaf h l _ hb.2 hr.2.2.2⟩
end
def rM(Z:Nat->Nat)(e:ME):ME:=⟨rU Z e.key,rU Z e.val,e.born⟩
def rB(Z:Nat->Nat):B->B
 |.row l e=>.row (iD Z l) e|.vec l e sz st=>.vec (iD Z l) e sz st
 |.map es cl=>.map (es.map (rM Z)) cl
theorem Uv(Z:Nat->Nat)(b:B):(rB Z b).st=b.st:=by cases b<;>rfl
mutual
theorem k?{n:Nat}{Z κ:Nat->Nat}(h:∀k,k<n->κ (Z k)=k):(u:U)->b7 n u->rU κ (rU Z u)=u
 |.ptr k _ _,hb=>by simp only[b7]at hb;simp[rU,h k hb]
 |.sl k _ _ _,hb=>by simp only[b7]at hb;simp[rU,h k hb]
 |.vl k _ _ _,hb=>by simp only[b7]at hb;simp[rU,h k hb]
 |.map k,hb=>by simp only[b7]at hb;simp[rU,h k hb]
 |.iptr l,hb=>by simp only[b7]at hb;simp[rU,VA h l hb]
 |.isl t l,hb=>by simp only[b7]at hb;simp[rU,qwk h l hb]
 |.fn f a b,hb=>by simp only[b7]at hb;simp[rU,VA h a hb.1,VA h b hb.2]
 |.agg l,hb=>by simp only[b7]at hb;simp[rU,VA h l hb]
 |.tup l,hb=>by simp only[b7]at hb;simp[rU,VA h l hb]
 |.junk,_=>rfl|.bool _,_=>rfl
 |.int _ _,_=>rfl|.str _,_=>rfl
 |.nilp,_=>rfl|.nils,_=>rfl
 |.nilm,_=>rfl|.nilf,_=>rfl
 |.nili,_=>rfl
theorem VA{n:Nat}{Z κ:Nat->Nat}(h:∀k,k<n->κ (Z k)=k):(l:List U)->aN n l->iD κ (iD Z l)=l
 |[],_=>rfl|u::l,hb=>by simp only[aN]at hb;simp[iD,k? h u hb.1,VA h l hb.2]
theorem qwk{n:Nat}{Z κ:Nat->Nat}(h:∀k,k<n->κ (Z k)=k):(l:List (List U))->lX n l->vZ κ (vZ Z l)=l
 |[],_=>rfl|c::l,hb=>by simp only[lX]at hb;simp[vZ,VA h c hb.1,qwk h l hb.2]
end
theorem bB.leaf{n:Nat}{Z:Nat->Nat}{x y:Cx}(h:T0 n Z x y){l:List U}{vs:List Value}(hb:aN n l)(hr:bB x l vs):bB y (iD Z l) vs:=⟨cD.leaf h l vs hb hr.1,by rw[CM];exact hr.2⟩
theorem nI.leaf{n:Nat}{Z:Nat->Nat}{x y:Cx}(h:T0 n Z x y){k j:Nat}{b:B}(hb:BelB n b)(jP:y.Y j=x.Y k)(hl:∀i c,x.Y k=some i->lk x.s.h i=some c->lk y.s.h i=some c)(hB:nI x k b):nI y j (rB Z b):=by
 cases b with
 |row l e=>obtain⟨k1,i,l',e1,e2,e3⟩:=hB;exact⟨by rw[FV];exact k1,i,l',by rw[jP,e1],hl _ _ e1 e2,bB.leaf h hb e3⟩
 |vec l e sz st=>obtain⟨k1,k2,h3⟩:=hB;refine⟨by rw[FV];exact k1,k2,?_⟩;rcases h3 with⟨rfl,h4⟩|⟨i,l',e1,e2,e3⟩;exact .inl ⟨rfl,by rw[jP,h4]⟩;exact .inr ⟨i,l',by rw[jP,e1],hl _ _ e1 e2,bB.leaf h hb e3⟩
 |map es cl=>obtain⟨i,es',e1,e2,e3,e4⟩:=hB;refine⟨i,es',by rw[jP,e1],hl _ _ e1 e2,by simpa using e3,fun j e he=>?_⟩;simp only[List.getElem?_map]at he;rcases hj:es[j]? with _|e0;rw[hj]at he;cases he;rw[hj]at he;simp only[zM,zA]at he;subst he;obtain⟨v,q1,q2,q3,q4⟩:=e4 j e0 hj;have Rt:=hb e0 (zX hj);exact⟨v,q1,aD.leaf h _ _ Rt.1 q2,aD.leaf h _ _ Rt.2 q3,q4⟩
structure UZ(n:Nat)(Z:Nat->Nat)(x y:Cx):Prop where
 ptr:∀k st off v,k<n->aD x (.ptr (Z k) st off) v->aD y (.ptr k st off) v
 sl:∀k off m c v,k<n->aD x (.sl (Z k) off m c) v->aD y (.sl k off m c) v
 vl:∀k st off m v,k<n->aD x (.vl (Z k) st off m) v->aD y (.vl k st off m) v
 map:∀k v,k<n->aD x (.map (Z k)) v->aD y (.map k) v
 imm:∀i row e,lk x.s.h i=some (.inl (row,e,1))->lk y.s.h i=some (.inl (row,e,1))
mutual
theorem aD.unleaf{n:Nat}{Z:Nat->Nat}{x y:Cx}(h:UZ n Z x y):(u:U)->(v:Value)->b7 n u->aD x (rU Z u) v->aD y u v
 |.junk,v,_,_=>by simp[aD]
 |.bool b,v,_,hr=>by simpa[rU,aD]using hr
 |.int k z,v,_,hr=>by simpa[rU,aD]using hr
 |.str l,v,_,hr=>by simpa[rU,aD]using hr
 |.nilp,v,_,hr=>by simpa[rU,aD]using hr
 |.ptr k st off,v,hb,hr=>h.ptr k st off v (by simpa[b7]using hb) hr|.iptr l,v,hb,hr=>by simp only[rU,aD]at*;obtain⟨i,off,row,e,h1,h2,h3,h4⟩:=hr;exact⟨i,off,row,e,h1,h.imm _ _ _ h2,cD.unleaf h l _ (by simpa[b7]using hb) h3,by rw[FV]at h4;exact h4⟩
 |.nils,v,_,hr=>by simpa[rU,aD]using hr
 |.sl k off m c,v,hb,hr=>h.sl k off m c v (by simpa[b7]using hb) hr|.vl k st off m,v,hb,hr=>h.vl k st off m v (by simpa[b7]using hb) hr
 |.isl t l,v,hb,hr=>by simp only[rU,aD]at*;rcases hr with⟨h0,hr⟩|⟨i,off,c,h1,h2,h3⟩;exact .inl ⟨List.eq_nil_of_length_eq_zero (by rw[<-Bx Z,h0];rfl),hr⟩;rw[Bx]at h1 h2;refine .inr ⟨i,off,c,h1,h2,?_⟩;rcases h3 with h3 |⟨row,e,sz,g1,g2,g3⟩;exact .inl (List.eq_nil_of_length_eq_zero (by rw[<-Bx Z,h3];rfl));rw[Bx]at g3;exact .inr ⟨row,e,sz,h.imm _ _ _ g1,gU.unleaf h l _ (by simpa[b7]using hb) g2,g3⟩
 |.nilm,v,_,hr=>by simpa[rU,aD]using hr
 |.map k,v,hb,hr=>h.map k v (by simpa[b7]using hb) hr|.fn f a b,v,hb,hr=>by simp only[rU,aD]at*;obtain⟨va,vb,h1,h2,h3,h4,h5⟩:=hr;simp only[b7]at hb;rw[CM]at h3 h5;exact⟨va,vb,h1,cD.unleaf h a _ hb.1 h2,h3,cD.unleaf h b _ hb.2 h4,h5⟩
 |.nilf,v,_,hr=>by simpa[rU,aD]using hr
 |.nili,v,_,hr=>by simpa[rU,aD]using hr
 |.agg l,v,hb,hr=>by simp only[rU,aD]at*;obtain⟨vs,h1,h2,h3,h4⟩:=hr;rw[CM]at h3;rw[FV]at h4;exact⟨vs,h1,cD.unleaf h l _ (by simpa[b7]using hb) h2,h3,h4⟩
 |.tup l,v,hb,hr=>by simp only[rU,aD]at*;obtain⟨vs,h1,h2,h3⟩:=hr;rw[CM]at h3;exact⟨vs,h1,cD.unleaf h l _ (by simpa[b7]using hb) h2,h3⟩
theorem cD.unleaf{n:Nat}{Z:Nat->Nat}{x y:Cx}(h:UZ n Z x y):(l:List U)->(vs:List Value)->aN n l->cD x (iD Z l) vs->cD y l vs
 |[],vs,_,_=>by simp[cD]
 |u::l,[],_,hr=>by simp[iD,cD]at hr
 |u::l,v::vs,hb,hr=>by simp only[iD,cD,aN]at*;exact⟨aD.unleaf h u v hb.1 hr.1,cD.unleaf h l vs hb.2 hr.2⟩
theorem gU.unleaf{n sz:Nat}{Z:Nat->Nat}{x y:Cx}(h:UZ n Z x y):(l:List (List U))->(vs:List Value)->lX n l->gU x sz (vZ Z l) vs->gU y sz l vs
 |[],vs,_,_=>by simp[gU]
 |c::l,vs,hb,hr=>by simp only[vZ,gU,lX]at*;exact⟨by rw[<-CM Z];exact hr.1,by rw[<-FV Z];exact hr.2.1,cD.unleaf h c vs hb.1 hr.2.2.1,gU.unleaf h l _ hb.2 hr.2.2.2⟩
end
theorem bB.unleaf{n:Nat}{Z:Nat->Nat}{x y:Cx}(h:UZ n Z x y){l:List U}{vs:List Value}(hb:aN n l)(hr:bB x (iD Z l) vs):bB y l vs:=⟨cD.unleaf h l vs hb hr.1,by rw[<-CM Z];exact hr.2⟩
theorem nI.unleaf{n:Nat}{Z:Nat->Nat}{x y:Cx}(h:UZ n Z x y){k j:Nat}{b:B}(hb:BelB n b)(jP:y.Y j=x.Y k)(hl:∀i c,x.Y k=some i->lk x.s.h i=some c->lk y.s.h i=some c)(hB:nI x k (rB Z b)):nI y j b:=by
 cases b with
 |row l e=>obtain⟨k1,i,l',e1,e2,e3⟩:=hB;exact⟨by rw[FV]at k1;exact k1,i,l',by rw[jP,e1],hl _ _ e1 e2,bB.unleaf h hb e3⟩
 |vec l e sz st=>obtain⟨k1,k2,h3⟩:=hB;rw[FV]at k1;refine⟨k1,k2,?_⟩;rcases h3 with⟨h3,h4⟩|⟨i,l',e1,e2,e3⟩;exact .inl ⟨List.eq_nil_of_length_eq_zero (by rw[<-CM Z,h3];rfl),by rw[jP,h4]⟩;exact .inr ⟨i,l',by rw[jP,e1],hl _ _ e1 e2,bB.unleaf h hb e3⟩
 |map es cl=>
  obtain⟨i,es',e1,e2,e3,e4⟩:=hB;refine⟨i,es',by rw[jP,e1],hl _ _ e1 e2,by simpa using e3,fun j e he=>?_⟩;have hj:(es.map (rM Z))[j]? = some (rM Z e):=by simp[he]
  obtain⟨v,q1,q2,q3,q4⟩:=e4 j _ hj;have Rt:=hb e (zX he);exact⟨v,q1,aD.unleaf h _ _ Rt.1 q2,aD.unleaf h _ _ Rt.2 q3,q4⟩
def ix:List Nat->Nat->Nat->Option Nat
 |[],_,_=>none|a::l,k,i=>cond (Nat.beq a k) (some i) (ix l k (i+1))
def nm:List Nat->Nat->Nat->Nat
 |[],nx,j=>nx+j|a::_,_,0=>a
 |_::l,nx,j+1=>nm l nx j
theorem FW:∀(ns:List Nat)(nx j:Nat),j<ns.length->∃h:j<ns.length,nm ns nx j=ns[j]
 |a::l,nx,0,h=>⟨h,rfl⟩|a::l,nx,j+1,h=>by obtain⟨h',e⟩:=FW l nx j (by simpa using h);exact⟨h,by simp[nm,e]⟩
theorem JB:∀(ns:List Nat)(nx j:Nat),ns.length<=j->nm ns nx j=nx+(j-ns.length)
 |[],nx,j,_=>by simp[nm]
 |a::l,nx,0,h=>by simp at h
 |a::l,nx,j+1,h=>by simp only[nm,JB l nx j (by simpa using h)];simp
theorem h_{ns:List Nat}{nx:Nat}(K3:ns.Nodup)(aG:∀k∈ns,k<nx){i j:Nat}(h:nm ns nx i=nm ns nx j):i=j:=by
 by_cases hi:i<ns.length;obtain⟨_,e1⟩:=FW ns nx i hi;by_cases hj:j<ns.length;obtain⟨_,e2⟩:=FW ns nx j hj;rw[e1,e2]at h;exact(List.getElem_inj K3).1 h;rw[e1,JB ns nx j (by omega)]at h;have:=aG _ (List.getElem_mem hi);omega;rw[JB ns nx i (by omega)]at h;by_cases hj:j<ns.length;obtain⟨_,e2⟩:=FW ns nx j hj;rw[e2]at h;have:=aG _ (List.getElem_mem hj);omega;rw[JB ns nx j (by omega)]at h;omega
def IM:List Nat->Nat->Bool
 |[],_=>false|a::l,k=>cond (Nat.beq a k) true (IM l k)
theorem Xg:∀(l:List Nat)(k:Nat),IM l k=true↔k∈l
 |[],k=>by simp[IM]
 |a::l,k=>by simp only[IM,beq_eq,zI];by_cases e:a=k;simp[e];have:¬ k=a:=fun h=>e h.symm;simp[e,this,Xg l k]
def xG(ns:List Nat)(nx:Nat):List (Nat×B)->List (Nat×B)
 |[]=>[]|(j,b)::h=>(nm ns nx j,rB (nm ns nx) b)::xG ns nx h
def FZ(ns:List Nat):List (Nat×B)->List (Nat×B)
 |[]=>[]|(k,b)::h=>cond (IM ns k) (FZ ns h) ((k,b)::FZ ns h)
theorem mw{ns:List Nat}{nx:Nat}(hi:∀i j,nm ns nx i=nm ns nx j->i=j):∀(h:List (Nat×B))(j:Nat),gt (xG ns nx h) (nm ns nx j)=(gt h j).map (rB (nm ns nx))
 |[],j=>by simp[xG,gt]
 |(i,b)::h,j=>by simp only[xG,lG,mw hi h j];by_cases e:i=j;simp[e];have:¬ nm ns nx i=nm ns nx j:=fun h=>e (hi _ _ h);simp[e,this]
theorem qle{ns:List Nat}{nx:Nat}:∀(h:List (Nat×B))(k:Nat),(∀j,nm ns nx j≠k)->gt (xG ns nx h) k=none
 |[],k,_=>by simp[xG,gt]
 |(i,b)::h,k,hk=>by simp[xG,lG,hk i,qle h k hk]
theorem Jx(ns:List Nat):∀(h:List (Nat×B))(k:Nat),gt (FZ ns h) k=if k∈ns then none else gt h k
 |[],k=>by simp[FZ,gt]
 |(j,b)::h,k=>by
  have ih:=Jx ns h k;simp only[FZ];cases hj:IM ns j with
  |true=>have HB:=(Xg ns j).1 hj;simp only[zC,ih,lG];by_cases e:j=k;subst e;simp[HB];simp[e]|false=>
   have HB:¬ j∈ns:=fun h=>by rw[(Xg ns j).2 h]at hj;cases hj
   simp only[zD,lG,ih];by_cases e:j=k;subst e;simp[HB];simp[e]
theorem ph(a b:List (Nat×B))(k:Nat):gt (a++b) k=match gt a k with |some c=>some c |none=>gt b k:=by
 induction a with|nil=>simp[gt]|cons p a ih=>obtain⟨j,c⟩:=p;simp only[List.cons_append,lG,ih];by_cases e:j=k<;>simp[e]
def Sk(ns:List Nat)(O O6:Sg):Sg:=⟨xG ns O.nx O6.h++FZ ns O.h,O.nx+(O6.nx-ns.length)⟩
mutual
theorem yu:(u:U)->rU id u=u
 |.ptr k _ _=>by simp[rU]
 |.sl k _ _ _=>by simp[rU]
 |.vl k _ _ _=>by simp[rU]
 |.map k=>by simp[rU]
 |.iptr l=>by simp[rU,SV l]
 |.isl t l=>by simp[rU,Hz l]
 |.fn f a b=>by simp[rU,SV a,SV b]
 |.agg l=>by simp[rU,SV l]
 |.tup l=>by simp[rU,SV l]
 |.junk=>rfl|.bool _=>rfl
 |.int _ _=>rfl|.str _=>rfl
 |.nilp=>rfl|.nils=>rfl
 |.nilm=>rfl|.nilf=>rfl
 |.nili=>rfl
theorem SV:(l:List U)->iD id l=l
 |[]=>rfl|u::l=>by simp[iD,yu u,SV l]
theorem Hz:(l:List (List U))->vZ id l=l
 |[]=>rfl|c::l=>by simp[vZ,SV c,Hz l]
end
theorem nI.keep{x y:Cx}{k:Nat}{b:B}(h:nI x k b)(hm:Ke x.O.nx x y)(jP:y.Y k=x.Y k)(hl:∀i c,x.Y k=some i->lk x.s.h i=some c->lk y.s.h i=some c):nI y k b:=by
 cases b with
 |row l e=>obtain⟨k1,i,l',e1,e2,e3⟩:=h;exact⟨k1,i,l',by rw[jP,e1],hl _ _ e1 e2,hm.E e3.bel e3⟩
 |vec l e sz st=>obtain⟨k1,k2,h3⟩:=h;refine⟨k1,k2,?_⟩;rcases h3 with⟨h3,h4⟩|⟨i,l',e1,e2,e3⟩;exact .inl ⟨h3,by rw[jP,h4]⟩;exact .inr ⟨i,l',by rw[jP,e1],hl _ _ e1 e2,hm.E e3.bel e3⟩
 |map es cl=>obtain⟨i,es',e1,e2,e3⟩:=h;refine⟨i,es',by rw[jP,e1],hl _ _ e1 e2,e3.1,fun j e he=>?_⟩;obtain⟨v,q1,q2,q3,q4⟩:=e3.2 j e he;exact⟨v,q1,hm _ _ (aD.bel _ _ q2) q2,hm _ _ (aD.bel _ _ q3) q3,q4⟩
theorem nI.row_at{x:Cx}{k i:Nat}{b:B}(h:nI x k b)(hi:x.Y k=some i):∃c,lk x.s.h i=some c:=by
 cases b with
 |row l e=>obtain⟨_,i',l',e1,e2,_⟩:=h;rw[hi]at e1;cases e1;exact⟨_,e2⟩
 |vec l e sz st=>obtain⟨_,_,h3⟩:=h;rcases h3 with⟨_,h4⟩|⟨i',l',e1,e2,_⟩;rw[hi]at h4;cases h4;rw[hi]at e1;cases e1;exact⟨_,e2⟩
 |map es cl=>obtain⟨i',es',e1,e2,_⟩:=h;rw[hi]at e1;cases e1;exact⟨_,e2⟩
theorem bA.frame{P:Program}{f:FuncId}{args:List U}{h0:List (Nat×B)}{R:U->Sg->Prop}(ns:List Nat)(h:bA P f args ⟨h0,ns.length⟩ R)(O:Sg)(K3:ns.Nodup)(aG:∀k∈ns,k<O.nx)(ha:aN ns.length args)
  (nE:∀k b,gt h0 k=some b->k<ns.length/\BelB ns.length b/\gt O.h (nm ns O.nx k)=some (rB (nm ns O.nx) b)):
  bA P f (iD (nm ns O.nx) args) O (fun u O'=>∃u0 O6,R u0 O6/\ns.length<=O6.nx/\u=rU (nm ns O.nx) u0/\O'=Sk ns O O6):=fun F x vs m w bH hx hh m9 he fH d9=>by
 subst hx;have Qs:∀i j,nm ns x.O.nx i=nm ns x.O.nx j->i=j:=fun i j h=>h_ K3 aG h;have tG:∀k,k∈ns->∃j,j<ns.length/\nm ns x.O.nx j=k:=fun k hk=>by obtain⟨j,hj,e⟩:=List.getElem_of_mem hk;exact⟨j,hj,by rw[(FW ns x.O.nx j hj).2,e]⟩
 have Qi:∀j,j<ns.length->nm ns x.O.nx j<x.O.nx:=fun j hj=>by rw[(FW ns x.O.nx j hj).2];exact aG _ (List.getElem_mem hj)
 let x0:Cx:=⟨fun k=>if k<ns.length then x.Y (nm ns x.O.nx k)else none,⟨h0,ns.length⟩,x.s⟩
 have D3:∀k,k<ns.length->x0.Y k=x.Y (nm ns x.O.nx k):=fun k hk=>by simp[x0,hk]
 have Y0:∀k st (p:Option Nat->Prop),k<ns.length->Ref x (nm ns x.O.nx k) st p->Ref x0 k st p:=fun k st p hk ⟨_,h2⟩=>⟨hk,fun b hb=>by obtain⟨_,_,hg⟩:=nE k b hb;have:=h2 _ hg;rw[Uv]at this;rw[D3 k hk];exact this⟩;have Ff:UZ ns.length (nm ns x.O.nx) x x0:={
  ptr:=fun k st off v hk hr=>by simp only[aD]at*;exact⟨hr.1,Y0 k st _ hk hr.2⟩
  sl:=fun k off m c v hk hr=>by simp only[aD]at*;exact⟨hr.1,Y0 k 0 _ hk hr.2⟩
  map:=fun k v hk hr=>by simp only[aD]at*;exact⟨hr.1,Y0 k 0 _ hk hr.2⟩
  vl:=fun k st off m v hk hr=>by
   simp only[aD]at*;obtain⟨g1,g2,g3⟩:=hr;refine⟨g1,hk,fun b hb=>?_⟩;obtain⟨_,_,hg⟩:=nE k b hb;obtain⟨g4,g5⟩:=g3 _ hg;rw[Uv]at g4 g5;refine⟨g4,fun e=>?_⟩;obtain⟨l,e',sz,e7,e8⟩:=g5 e;rw[D3 k hk];cases b with
   |vec l0 e0 Hu st0=>simp only[rB,B.vec.injEq]at e7;obtain⟨_,rfl,rfl,rfl⟩:=e7;exact⟨l0,_,_,rfl,e8⟩
   |row _ _=>simp[rB]at e7|map _ _=>simp[rB]at e7
  imm:=fun i row e hl=>hl }
 have hh0:jZ x0:=⟨fun k b hb=>by obtain⟨h1,h2,h3⟩:=nE k b hb;exact⟨h1,nI.unleaf Ff h2 (D3 k h1) (fun i c _ hl=>hl) (hh.ok _ _ h3).2⟩,
  fun k k' b b' i hb cQ hi lP=>by obtain⟨h1,h2,h3⟩:=nE k b hb;obtain⟨vR,F2,YQ⟩:=nE k' b' cQ;rw[D3 k h1]at hi;rw[D3 k' vR]at lP;exact Qs _ _ (hh.inj _ _ _ _ i h3 YQ hi lP),
  hh.bd⟩
 let F0:Nat->lB->Prop:=fun i b=>lk x.s.h i=some b/\∀k c,gt h0 k=some c->x.Y (nm ns x.O.nx k)≠some i
 have dj:Fr F0 x0:=fun i b J=>⟨J.1,fun k c hc=>by rw[D3 k (nE k c hc).1];exact J.2 k c hc⟩;refine(h F0 x0 vs m w bH rfl hh0 dj (bB.unleaf Ff ha he) fH d9).mono ?_;rintro e w₁ ⟨y0,aJ,u0,v,cv,rfl,hR,aR,fX,Qw,uT,B9,eS,m8⟩;have pO:ns.length<=y0.O.nx:=m8;have Qu:∀k,k<x.O.nx->¬ k∈ns->∀j,nm ns x.O.nx j≠k:=fun k hk hn j e=>by by_cases hj:j<ns.length;obtain⟨_,e1⟩:=FW ns x.O.nx j hj;rw[e1]at e;exact hn (e ▸ List.getElem_mem hj);rw[JB ns x.O.nx j (by omega)]at e;omega
 let inv:Nat->Option Nat:=fun k=>if k<x.O.nx then ix ns k 0 else some (ns.length+(k-x.O.nx))
 let y:Cx:=⟨fun k=>if k∈ns\/x.O.nx<=k then(match inv k with |some j=>y0.Y j |none=>none)else x.Y k,Sk ns x.O y0.O,y0.s⟩
 have az:∀(l:List Nat)(j i:Nat),l.Nodup->(hj:j<l.length)->ix l l[j] i=some (i+j):=by
  intro l;induction l with
  |nil=>intro j i _ hj;simp at hj|cons a l ih=>
   intro j i K3 hj;cases j with
   |zero=>simp[ix,beq_eq]|succ j=>have cW:¬ a=l[j]'(by simpa using hj):=fun h=>(List.nodup_cons.1 K3).1 (h ▸ List.getElem_mem _);simp only[List.getElem_cons_succ,ix,beq_eq,cW,yB,zD];rw[ih j (i+1) (List.nodup_cons.1 K3).2 (by simpa using hj)];congr 1;omega
 have YB:∀j,inv (nm ns x.O.nx j)=some j:=fun j=>by
  by_cases hj:j<ns.length;have h1:=Qi j hj;obtain⟨_,e1⟩:=FW ns x.O.nx j hj;simp only[inv,h1,if_true];rw[e1,az ns j 0 K3 hj];simp;have e1:=JB ns x.O.nx j (by omega);have h1:¬ nm ns x.O.nx j<x.O.nx:=by omega
  simp only[inv,h1,if_false,zA];omega
 have D0:∀j,y.Y (nm ns x.O.nx j)=y0.Y j:=fun j=>by
  have h1:nm ns x.O.nx j∈ns\/x.O.nx<=nm ns x.O.nx j:=by by_cases hj:j<ns.length;obtain⟨_,e1⟩:=FW ns x.O.nx j hj;exact .inl (by rw[e1];exact List.getElem_mem hj);rw[JB ns x.O.nx j (by omega)];exact .inr (by omega)
  simp only[y,h1,if_true,YB]
 have yX:∀k,k<x.O.nx->¬ k∈ns->y.Y k=x.Y k:=fun k hk hn=>by
  have h1:¬ (k∈ns\/x.O.nx<=k):=by rintro(h |h);exact hn h;omega
  simp only[y,h1,if_false]
 have N4:∀j,gt y.O.h (nm ns x.O.nx j)=(gt y0.O.h j).map (rB (nm ns x.O.nx)):=fun j=>by
  show gt (xG ns x.O.nx y0.O.h++FZ ns x.O.h) _=_;rw[ph,mw Qs];cases hg:gt y0.O.h j with
  |some b=>rfl|none=>simp only[Option.map_none];rw[Jx];split;rfl;rename_i hn;rcases K5:gt x.O.h (nm ns x.O.nx j)with _|b;rfl;have:=(hh.ok _ _ K5).1;exact absurd rfl (Qu _ this hn j)
 have dg:∀k,k<x.O.nx->¬ k∈ns->gt y.O.h k=gt x.O.h k:=fun k hk hn=>by show gt (xG ns x.O.nx y0.O.h++FZ ns x.O.h) _=_;rw[ph,qle _ _ (Qu k hk hn),Jx,if_neg hn]
 have wU:∀k b,gt y.O.h k=some b->(∃j b0,k=nm ns x.O.nx j/\gt y0.O.h j=some b0/\b=rB (nm ns x.O.nx) b0)\/(k<x.O.nx/\¬ k∈ns/\gt x.O.h k=some b):=fun k b hb=>by
  by_cases hk:∃j,nm ns x.O.nx j=k;obtain⟨j,rfl⟩:=hk;rw[N4]at hb;rcases hg:gt y0.O.h j with _|b0;rw[hg]at hb;cases hb;rw[hg]at hb;simp at hb;exact .inl ⟨j,b0,rfl,hg,hb.symm⟩;have wP:∀j,nm ns x.O.nx j≠k:=fun j e=>hk ⟨j,e⟩
  have uS:k<x.O.nx:=by rcases Nat.lt_or_ge k x.O.nx with h |h;exact h;exact absurd (by rw[JB ns x.O.nx _ (by omega)];omega) (wP (ns.length+(k-x.O.nx)))
  have hn:¬ k∈ns:=fun h=>by obtain⟨j,_,e⟩:=tG k h;exact wP j e
  rw[dg k uS hn]at hb;exact .inr ⟨uS,hn,hb⟩
 have B8:∀k,k<x.O.nx->k∈ns\/¬ k∈ns:=fun k _=>Classical.em _;have GV:y.O.nx=x.O.nx+(y0.O.nx-ns.length):=rfl;have H7:∀j,j<y0.O.nx->nm ns x.O.nx j<y.O.nx:=fun j hj=>by rw[GV];by_cases HB:j<ns.length;have:=Qi j HB;omega;rw[JB ns x.O.nx j (by omega)];omega
 have H3:∀k st (p:Option Nat->Prop),Ref y0 k st p->Ref y (nm ns x.O.nx k) st p:=fun k st p ⟨h1,h2⟩=>⟨H7 k h1,fun b hb=>by rw[N4]at hb;rcases hg:gt y0.O.h k with _|b0;rw[hg]at hb;cases hb;rw[hg]at hb;simp only[zM,zA]at hb;subst hb;rw[Uv,D0];exact h2 _ hg⟩;have u6:T0 y0.O.nx (nm ns x.O.nx) y0 y:={
  ptr:=fun k st off v _ hr=>by simp only[aD]at*;exact⟨hr.1,H3 k st _ hr.2⟩
  sl:=fun k off m c v _ hr=>by simp only[aD]at*;exact⟨hr.1,H3 k 0 _ hr.2⟩
  map:=fun k v _ hr=>by simp only[aD]at*;exact⟨hr.1,H3 k 0 _ hr.2⟩
  vl:=fun k st off m v _ hr=>by simp only[aD]at*;obtain⟨g1,g2,g3⟩:=hr;refine⟨g1,H7 k g2,fun b hb=>?_⟩;rw[N4]at hb;rcases hg:gt y0.O.h k with _|b0;rw[hg]at hb;cases hb;rw[hg]at hb;simp only[zM,zA]at hb;subst hb;rw[Uv,D0];obtain⟨g4,g5⟩:=g3 _ hg;refine⟨g4,fun e=>?_⟩;obtain⟨l,e',sz,rfl,e8⟩:=g5 e;exact⟨_,e',sz,rfl,e8⟩
  imm:=fun i row e hl=>hl }
 have db:∀i row e,lk x.s.h i=some (.inl (row,e,1))->lk y.s.h i=some (.inl (row,e,1)):=fun i row e hl=>(uT i _ ⟨hl,fun k c hc jP=>(hh.ok _ _ (nE k c hc).2.2).2.not1 jP hl⟩).1;have H4:∀k st (p:Option Nat->Prop),¬ k∈ns->Ref x k st p->Ref y k st p:=fun k st p hn ⟨h1,h2⟩=>⟨by rw[GV];omega,fun b hb=>by rw[dg k h1 hn]at hb;rw[yX k h1 hn];exact h2 b hb⟩;have ax:T0 x.O.nx id x y:={
  ptr:=fun k st off v hk hr=>by by_cases hn:k∈ns;obtain⟨j,hj,rfl⟩:=tG k hn;exact u6.ptr j st off v (by omega) (eS (.ptr j st off) v (by simpa[b7,x0]using hj) (Ff.ptr j st off v hj hr));simp only[aD]at*;exact⟨hr.1,H4 k st _ hn hr.2⟩
  sl:=fun k off m c v hk hr=>by by_cases hn:k∈ns;obtain⟨j,hj,rfl⟩:=tG k hn;exact u6.sl j off m c v (by omega) (eS (.sl j off m c) v (by simpa[b7,x0]using hj) (Ff.sl j off m c v hj hr));simp only[aD]at*;exact⟨hr.1,H4 k 0 _ hn hr.2⟩
  map:=fun k v hk hr=>by by_cases hn:k∈ns;obtain⟨j,hj,rfl⟩:=tG k hn;exact u6.map j v (by omega) (eS (.map j) v (by simpa[b7,x0]using hj) (Ff.map j v hj hr));simp only[aD]at*;exact⟨hr.1,H4 k 0 _ hn hr.2⟩
  vl:=fun k st off m v hk hr=>by by_cases hn:k∈ns;obtain⟨j,hj,rfl⟩:=tG k hn;exact u6.vl j st off m v (by omega) (eS (.vl j st off m) v (by simpa[b7,x0]using hj) (Ff.vl j st off m v hj hr));simp only[aD,id]at*;obtain⟨g1,g2,g3⟩:=hr;refine⟨g1,by rw[GV];omega,fun b hb=>?_⟩;rw[dg k g2 hn]at hb;rw[yX k g2 hn];exact g3 b hb
  imm:=db }
 have N2:∀u,rU id u=u/\True:=fun u=>⟨(yu u),trivial⟩;have R3:Ke x.O.nx x y:=fun u v hb hr=>by
  have:=aD.leaf ax u v hb hr
  rwa [(N2 u).1]at this
 have QZ:∀k b i c,gt x.O.h k=some b->¬ k∈ns->x.Y k=some i->lk x.s.h i=some c->F0 i c:=fun k b i c hb hn hi hl=>⟨hl,fun j d hd jP=>by
  obtain⟨h1,_,h3⟩:=nE j d hd;have:=hh.inj _ _ _ _ i h3 hb jP hi;have h5:nm ns x.O.nx j∈ns:=by rw[(FW ns x.O.nx j h1).2];exact List.getElem_mem h1
  exact hn (this ▸ h5)⟩
 refine⟨y,aJ,rU (nm ns x.O.nx) u0,v,cv,rfl,⟨u0,y0.O,hR,pO,rfl,rfl⟩,aR,fX,⟨fun k b hb=>?_,fun k k' b b' i hb cQ hi lP=>?_,Qw.bd⟩,fun i b J=>?_,aD.leaf u6 u0 v (aD.bel u0 v B9) B9,R3,by rw[GV];omega⟩;rcases wU k b hb with⟨j,b0,rfl,hg,rfl⟩|⟨h1,h2,h3⟩;obtain⟨g1,g2⟩:=Qw.ok j b0 hg;exact⟨H7 j g1,nI.leaf u6 (g2.belB) (D0 j) (fun i c _ hl=>hl) g2⟩;exact⟨by rw[GV];omega,(hh.ok k b h3).2.keep R3 (yX k h1 h2) fun i c hi hl=>(uT i c (QZ k b i c h3 h2 hi hl)).1⟩;have mixed:∀k k' b b0 (j:Nat),k=nm ns x.O.nx j->gt y0.O.h j=some b0->y.Y k=some i->k'<x.O.nx->¬ k'∈ns->gt x.O.h k'=some b->y.Y k'=some i->False:=fun k k' b b0 j e hg hi h1 h2 h3 lP=>by subst e;rw[D0]at hi;rw[yX k' h1 h2]at lP;obtain⟨c,hc⟩:=(hh.ok k' b h3).2.row_at lP;exact(uT i c (QZ k' b i c h3 h2 lP hc)).2 j b0 hg hi
 rcases wU k b hb with⟨j,b0,e1,hg,_⟩|⟨h1,h2,h3⟩;rcases wU k' b' cQ with⟨j',ot,NT,N7,_⟩|⟨vR,F2,YQ⟩;subst e1 NT;rw[D0]at hi lP;rw[Qw.inj j j' b0 ot i hg N7 hi lP];exact(mixed k k' b' b0 j e1 hg hi vR F2 YQ lP).elim;rcases wU k' b' cQ with⟨j',ot,NT,N7,_⟩|⟨vR,F2,YQ⟩;exact(mixed k' k b ot j' NT N7 lP h1 h2 h3 hi).elim;rw[yX k h1 h2]at hi;rw[yX k' vR F2]at lP;exact hh.inj k k' b b' i h3 YQ hi lP;obtain⟨h1,h2⟩:=m9 i b J;have hF0:F0 i b:=⟨h1,fun k c hc=>h2 _ _ (nE k c hc).2.2⟩;refine⟨(uT i b hF0).1,fun k c hc=>?_⟩;rcases wU k c hc with⟨j,b0,rfl,hg,_⟩|⟨g1,g2,g3⟩;rw[D0];exact(uT i b hF0).2 j b0 hg;rw[yX k g1 g2];exact h2 k c g3
def a8{X H:Type}(o:Option X)(k:X->Option H):Option H:=match o with
 |some a=>k a|none=>none
variable{X:Type}
variable{H:Type}
theorem aC{o:Option X}{k:X->Option H}{r:H}(h:a8 o k=some r):∃a,o=some a/\k a=some r:=by
 rcases o with _|a;cases h;exact⟨a,rfl,h⟩
@[simp] theorem aO{X H:Type}(a:X)(k:X->Option H):a8 (some a) k=k a:=rfl
@[simp] theorem kf{X H:Type}(k:X->Option H):a8 none k=none:=rfl
theorem ZQ{c:Bool}{a b:Option H}{r:Option H}(h:c=true)(J:cond c a b=r):a=r:=by subst h;exact J
theorem ZR{c:Bool}{a b:Option H}{r:Option H}(h:c=false)(J:cond c a b=r):b=r:=by subst h;exact J
def aE{H:Type}(p:Prop)[Decidable p](k:Option H):Option H:=if p then k else none
theorem d8{p:Prop}[Decidable p]{k:Option H}{r:H}(h:aE p k=some r):p/\k=some r:=by
 unfold aE at h;split at h;rename_i hp;exact⟨hp,h⟩;cases h
theorem qw9{p:Prop}[Decidable p]{k:Option H}(h:p):aE p k=k:=by simp[aE,h]
def aB{X:Type}(l:List X)(i:Int):Option X:=if 0<=i/\i<(l.length:Int)then l[i.toNat]? else none
variable{l:List X}
variable{i:Int}
variable{x:X}
theorem qzt(c:X->List U)(h:aB l i=some x):0<=i/\i<(l.length:Int)/\(l.map c)[i.toNat]? = some (c x):=by
 unfold aB at h;split at h;rename_i hp;exact⟨hp.1,hp.2,by simp[h]⟩;cases h
theorem Xf(h:aB l i=some x):0<=i/\i<(l.length:Int)/\l[i.toNat]? = some x:=by
 unfold aB at h;split at h;rename_i hp;exact⟨hp.1,hp.2,h⟩;cases h
theorem cO(i:Nat):aB l (i:Int)=l[i]?:=by
 unfold aB;by_cases h:i<l.length;simp[h];simp[h]
def cI(k:IntKind)(n:Int):List U:=[.int k n]
def cB(b:Bool):List U:=[.bool b]
def cS(s:List UInt8):List U:=[.str s]
def cL{X:Type}(c:X->List U)(l:List X):List U:=[.isl false (l.map c)]
theorem Wg(n:Nat)(k:IntKind)(x:Int):aN n (cI k x):=by simp[cI,aN,b7]
theorem Ah(n:Nat)(x:Bool):aN n (cB x):=by simp[cB,aN,b7]
theorem H_(n:Nat)(x:List UInt8):aN n (cS x):=by simp[cS,aN,b7]
variable{c:X->List U}
theorem Ag(n:Nat)(h:∀x,aN n (c x))(x:List X):aN n (cL c x):=by simp[cL,aN,b7,yR c h x]
variable{sz:Nat}
theorem qye(h:∀x,(c x).length=sz)(l:List X):((l.map c).all fun r=>Nat.beq r.length sz)=true:=by
 simp[h]
theorem JJ(h:∀x,(c x).length=sz)(l:List X):((l.map c).flatten).length=l.length*sz:=by
 induction l with|nil=>simp|cons x l ih=>simp only[zQ,List.flatten_cons,zU,ih,h,zO,Nat.succ_mul];omega
theorem z3m(c:X->List U)(l k:List X):((l++k).map c).flatten=(l.map c).flatten++(k.map c).flatten:=by simp
theorem z7o(h:∀x,(c x).length=sz)(l:List X):jX (l.map c).flatten (0*sz) (l.length*sz)=some (l.map c).flatten:=by
 have:=JJ h l;simp only[jX,Nat.zero_mul,Nat.zero_add,this,zF,if_true,List.drop_zero];rw[<-this,List.take_length]
theorem Xr(h:∀x,(c x).length=sz)(l:List X)(i:Nat):((l.map c).flatten).drop (i*sz)=((l.drop i).map c).flatten:=by
 induction i generalizing l with|zero=>simp|succ i ih=>rcases l with _|⟨x,l⟩;simp;simp only[zQ,List.flatten_cons,List.drop_succ_cons,Nat.succ_mul];rw[Nat.add_comm,<-List.drop_drop,List.drop_append_of_le_length (by rw[h];exact zF _)];rw[show(c x).drop sz=[]from List.drop_eq_nil_of_le (by rw[h];exact zF _),List.nil_append,ih]
theorem pj(h:∀x,(c x).length=sz)(l:List X)(i:Nat):((l.map c).flatten).take (i*sz)=((l.take i).map c).flatten:=by
 induction i generalizing l with|zero=>simp|succ i ih=>rcases l with _|⟨x,l⟩;simp;simp only[zQ,List.flatten_cons,List.take_succ_cons,Nat.succ_mul];rw[Nat.add_comm,List.take_append,h,zW (by rw[h];omega),Nat.add_sub_cancel_left,ih]
theorem qmp(h:∀x,(c x).length=sz)(l:List X):cA sz l.length (l.map c).flatten=l.map c:=by
 induction l with|nil=>rfl|cons x l ih=>simp only[zQ,List.flatten_cons,zO,cA];rw[List.take_append_of_le_length (by rw[h];exact zF _),zW (by rw[h];exact zF _),List.drop_append_of_le_length (by rw[h];exact zF _),List.drop_eq_nil_of_le (by rw[h];exact zF _),List.nil_append,ih]
theorem S_(h:∀x,(c x).length=sz)(hx:aB l i=some x):jX (l.map c).flatten (0*sz+i.toNat*sz) sz=some (c x):=by
 obtain⟨h1,h2,h3⟩:=Xf hx;have aG:i.toNat<l.length:=by omega
 have hl:=JJ h l;have sG:i.toNat*sz+sz<=l.length*sz:=by rw[<-Nat.succ_mul];exact Nat.mul_le_mul_right _ (by omega)
 simp only[jX,Nat.zero_mul,Nat.zero_add,hl,sG,if_true,Xr h,zA];have hd:l.drop i.toNat=x::l.drop (i.toNat+1):=by rw[List.drop_eq_getElem_cons aG];rw[List.getElem?_eq_getElem aG]at h3;rw[Option.some.inj h3]
 rw[hd];simp only[zQ,List.flatten_cons];rw[List.take_append_of_le_length (by rw[h];exact zF _),zW (by rw[h];exact zF _)]
theorem TA(h:∀x,(c x).length=sz)(hz:0<sz)(hx:aB l i=some x):((l.map c).flatten=[])=False:=by
 obtain⟨h1,h2,h3⟩:=Xf hx;have hl:=JJ h l;simp only[eq_iff_iff,iff_false];intro e;rw[e]at hl;have:0<l.length*sz:=Nat.mul_pos (by omega) hz;simp at hl;omega
theorem z7v(h:∀x,(c x).length=1){u:X->U}(hu:∀x,c x=[u x])(hx:aB l i=some x):nth (l.map c).flatten (0*1+i.toNat*1)=some (u x):=by
 have:=S_ h hx;obtain⟨h1,h2⟩:=PO this;rw[hu]at h2;rw[iQ];have h3:=congrArg (fun l:List U=>l[0]?) h2;simp only[List.getElem?_take,List.getElem?_drop]at h3;simpa using h3.symm
def pI{X:Type}(l:List X)(lo hi:Int):Option (List X):=if 0<=lo/\lo<=hi/\hi<=(l.length:Int)then some ((l.take hi.toNat).drop lo.toNat)else none
theorem qvf(c:X->List U)(l:List X)(a b:Nat):oO (l.map c) a b=((l.take b).drop a).map c:=by simp[oO,List.map_drop,List.map_take]
variable{k:List X}
variable{lo:Int}
variable{hi:Int}
theorem qrs(h:pI l lo hi=some k):0<=lo/\lo<=hi/\hi<=(l.length:Int)/\(l.take hi.toNat).drop lo.toNat=k:=by
 unfold pI at h;split at h;rename_i hp;exact⟨hp.1,hp.2.1,hp.2.2,Option.some.inj h⟩;cases h
theorem P8{n m:Nat}{k:IntKind}(h1:0<=hi)(h2:hi<=(n:Int)):g9 m n none (some (.int k hi)) none=some (0,hi.toNat,n):=by
 have:qD hi (n+1)=true:=L9 ⟨by omega,by omega⟩;simp[g9,iX,this]
theorem Wf{n:Nat}{k:IntKind}(h1:0<=lo)(h2:lo<=(n:Int)):g9 n n (some (.int k lo)) none none=some (lo.toNat,n,n):=by
 have:qD lo (n+1)=true:=L9 ⟨by omega,by omega⟩;simp[g9,iX,this]
def OQ(n0:Nat)(E:List U->Sg->Prop)(Q:Exit->List U->Sg->Prop):Exit->List U->Sg->Prop
 |.normal,tm,O=>∃tm' O',E tm' O'/\n0<=O'.nx/\Gh n0 tm O tm' O'|e,tm,O=>Q e tm O
variable{C:PG}
variable{n0:Nat}
variable{tm:List U}
variable{O:Sg}
theorem dL{Q:Exit->List U->Sg->Prop}{c:Code}(E:List U->Sg->Prop)(out:∀tm O,E tm O->Q .normal tm O)(h:WPU C n0 c tm O (OQ n0 E Q)):WPU C n0 c tm O Q:=by
 refine WPU.after h ?_;intro e UB O1 hn h;cases e with
 |normal=>obtain⟨iL,bT,h1,h2,h3⟩:=h;exact⟨iL,bT,h2,h3,out _ _ h1⟩
 |_=>exact⟨UB,O1,hn,Gh.refl _ _ _,h⟩
theorem WPU.loopK{Q:Exit->List U->Sg->Prop}{c:Code}{id:Nat}(I:Nat->List U->Sg->Prop)(E:List U->Sg->Prop)(n:Nat)(h₀:I n tm O)
  (out:∀tm O,E tm O->Q .normal tm O)
  (round:∀n tm O,I n tm O->WPU C n0 c tm O (CG (fun tm' O'=>∃n' iL bT,n'<n/\I n' iL bT/\n0<=bT.nx/\Gh n0 tm' O' iL bT) (yQ id (OQ n0 E Q)))):WPU C n0 (.block id (.loop c)) tm O Q:=by
 refine dL E out ?_;apply aV;exact WPU.loopG I n h₀ round
theorem bA.ghost{P:Program}{f:FuncId}{args args':List U}{O':Sg}{R:U->Sg->Prop}(hg:Gh O.nx args O args' O')(hn:O.nx<=O'.nx)(h:bA P f args' O' R):bA P f args O R:=fun F x vs m w bH hx hh m9 he fH d9=>by
 obtain⟨y,g1,g2,g3,g4,g5,g6⟩:=hg F x vs hx hh m9 he;have aR:=g1 m w fH;refine(h F y vs m w bH g2 g3 g4 g5 aR.fits (d9.ext (aK.refl _ _) aR.nx)).mono ?_;rintro e w₁ ⟨z,aJ,u,v,cv,h1,h2,h3,h4,h5,h6,h7,h8,h9⟩;refine⟨z,aJ,u,v,cv,h1,h2,aR.trans h3,h4,h5,h6,h7,?_,?_⟩;have g6':Ke x.O.nx x y:=by rw[hx];exact g6
 exact g6'.trans (h8.le (by rw[hx,g2];exact hn));rw[hx];exact Nat.le_trans hn (by rw[<-g2];exact h9)
mutual
inductive Wk:U->U->Prop
 |refl (u:U):Wk u u
 |nil (t:Bool):Wk .nils (.isl t [])
 |full (l:List (List U)):Wk (.isl true l) (.isl false l)
 |agg {l l':List U} (h:pS l l'):Wk (.agg l) (.agg l')
 |tup {l l':List U} (h:pS l l'):Wk (.tup l) (.tup l')
inductive pS:List U->List U->Prop
 |nil:pS [] []
 |cons {u u':U} {l l':List U} (h:Wk u u') (h':pS l l'):pS (u::l) (u'::l')
end
theorem pS.refl:∀l,pS l l
 |[]=>.nil|u::l=>.cons (.refl u) (pS.refl l)
theorem Wk.okC{u u':U}(h:Wk u u'):Vx.okC u'=Vx.okC u:=by cases h<;>rfl
theorem pS.len:∀{l l':List U},pS l l'->l'.length=l.length
 |_,_,.nil=>rfl|_,_,.cons _ h=>by simp[h.len]
theorem pS.okL:∀{l l':List U},pS l l'->Vx.okL l'=Vx.okL l
 |_,_,.nil=>rfl|_,_,.cons h h'=>by simp[Vx.okL,h.okC,h'.okL]
mutual
theorem Wk.rel{x:Cx}{u u':U}{v:Value}(h:Wk u u')(hr:aD x u v):aD x u' v:=by
 cases h with
 |refl=>exact hr|nil t=>simp only[aD]at hr ⊢;exact .inl ⟨trivial,.inl hr⟩
 |full l=>simp only[aD]at hr ⊢;rcases hr with hr |⟨i,off,c,h1,h2,h3⟩;exact .inl hr;exact .inr ⟨i,off,c,h1,by simp,h3⟩
 |agg h=>simp only[aD]at hr ⊢;obtain⟨vs,h1,h2,h3,h4⟩:=hr;exact⟨vs,h1,pS.rel h h2,by rw[h.len,h3],by rw[h.okL,h4]⟩
 |tup h=>simp only[aD]at hr ⊢;obtain⟨vs,h1,h2,h3⟩:=hr;exact⟨vs,h1,pS.rel h h2,by rw[h.len,h3]⟩
theorem pS.rel{x:Cx}{l l':List U}{vs:List Value}(h:pS l l')(hr:cD x l vs):cD x l' vs:=by
 rcases h with _|⟨h,h'⟩;exact hr;rcases vs with _|⟨v,vs⟩;simp[cD]at hr;simp only[cD]at hr ⊢;exact⟨Wk.rel h hr.1,pS.rel h' hr.2⟩
end
theorem Gh.wk{tm':List U}(h:pS tm tm'):Gh n0 tm O tm' O:=fun F x tv hx hr hf he=>⟨x,fun m w hf=>bP.refl hf,hx,hr,hf,⟨h.rel he.1,by rw[h.len];exact he.2⟩,Ke.refl _ _⟩
theorem Gh.fz{tm':List U}{h':List (Nat×B)}(K:Nat)(b:B)(sz:Nat)(hg:gt O.h K=some b)(hb:∀es cl,b≠.map es cl)(ht:lA K b sz tm=tm')(hh:fzH K b sz O.h=h'):Gh n0 tm O tm' ⟨h',O.nx⟩:=by
 subst ht;subst hh;exact Gh.freeze sz hg hb
theorem vi(h:∀x,(c x).length=sz)(l:List X)(K s:Nat)(e:TypeId)(st:Nat):fz K (.vec (l.map c).flatten e sz st) s (.vl K st 0 l.length)=.isl false (l.map c):=by
 have hl:=JJ h l;have hc:=qmp h l;simp[fz,beq_eq,hl,hc]
theorem qv5(n:Nat):∀(a b:List U),aN n a->aN n b->aN n (a++b)
 |[],b,_,h=>h|u::a,b,h,h'=>by simp only[aN]at h;simp only[List.cons_append,aN];exact⟨h.1,qv5 n a b h.2 h'⟩
theorem EP{X:Type}{c:X->List U}(n:Nat)(h:∀x,aN n (c x)):∀l:List X,aN n (l.map c).flatten
 |[]=>by simp[aN]
 |x::l=>by simp only[zQ,List.flatten_cons];exact qv5 n _ _ (h x) (EP n h l)
theorem RU.fcall{T:Tb}{aA r:List Oper}{o:Oper}{O1:Sg}{K:List U->Sg->Prop}{f:FuncId}{args args':List U}{u:U}(hw:cP aA tm o=some true)(hc:jL T tm o.op=some (f,args))(hg:Gh O.nx args O args' O1)(hn:O.nx<=O1.nx)(kE:bA C.prog f args' O1 (fun u' O'=>u'=u/\O'=O1))
  (h:RU C T aA r (eH tm o.dst u) O1 K):RU C T aA (o::r) tm O K:=RU.call hw hc (bA.ghost hg hn kE) (fun u' O' ⟨h1,h2⟩=>by subst h1;subst h2;exact h)
theorem We(c:X->List U)(kk:IntKind)(h:pI l 0 hi=some k):g9 l.length l.length none (some (.int kk hi)) none=some (0,hi.toNat,l.length)/\oO (l.map c) 0 hi.toNat=k.map c:=by
 obtain⟨h1,h2,h3,h4⟩:=qrs h;exact⟨P8 h2 h3,by rw[qvf,<-h4];rfl⟩
theorem Bs(c:X->List U)(kk:IntKind)(h:pI l lo (l.length:Int)=some k):g9 l.length l.length (some (.int kk lo)) none none=some (lo.toNat,l.length,l.length)/\oO (l.map c) lo.toNat l.length=k.map c:=by
 obtain⟨h1,h2,h3,h4⟩:=qrs h;exact⟨Wf h1 h2,by rw[qvf,<-h4];simp⟩
def mY:List (Nat×U)->Nat->Option U
 |[],_=>none|(j,u)::l,i=>cond (Nat.beq j i) (some u) (mY l i)
def Z3(l:List (Nat×U)):Nat->Nat->List U
 |0,_=>[]|n+1,i=>((mY l i).getD .junk)::Z3 l n (i+1)
def fr(n:Nat)(l:List (Nat×U)):List U:=Z3 l n 0
theorem M?(l:List (Nat×U)):∀n i,(Z3 l n i).length=n
 |0,_=>rfl|n+1,i=>by simp[Z3,M? l n]
theorem N?(l:List (Nat×U)):∀n i k,k<n->(Z3 l n i)[k]? = some ((mY l (i+k)).getD .junk)
 |0,_,_,h=>by omega
 |n+1,i,0,_=>by simp[Z3]
 |n+1,i,k+1,h=>by simp only[Z3,zH];rw[N? l n (i+1) k (by omega),show i+1+k=i+(k+1) by omega]
theorem G3(n:Nat)(l:List (Nat×U)):(fr n l).length=n:=M? l n 0
variable{k:Nat}
theorem LA(n:Nat)(l:List (Nat×U))(h:k<n):(fr n l)[k]? = some ((mY l k).getD .junk):=by
 have:=N? l n 0 k h;simpa[fr]using this
variable{n:Nat}
variable{l:List (Nat×U)}
theorem x_{t:List U}(hl:t.length=n)(h:∀k,k<n->t[k]? = some ((mY l k).getD .junk)):t=fr n l:=by
 apply List.ext_getElem?;intro k;by_cases hk:k<n;rw[h k hk,LA n l hk];rw[List.getElem?_eq_none (by omega),List.getElem?_eq_none (by rw[G3];omega)]
def bV(n:Nat)(l:List (Nat×U)):Operand->Option U
 |.tmp t=>cond (Nat.blt t n) (mY l t) none|.const v=>iH v
 |.func f=>some (.fn (.func f) [] [])|.global _=>none
variable{o:Operand}
variable{u:U}
theorem eT(h:bV n l o=some u):c6 (fr n l) o=some u:=by
 cases o with
 |tmp t=>simp only[bV]at h;rcases hb:Nat.blt t n with _|_;rw[hb]at h;cases h;rw[hb]at h;simp only[zC]at h;simp only[c6,iQ];have ht:t<n:=zY hb;rw[LA n l ht,h];rfl
 |const v=>exact h|func f=>exact h
 |global g=>cases h
def KJ(n:Nat)(l:List (Nat×U)):List Operand->Option (List U)
 |[]=>some []|x::r=>match bV n l x with
  |some v=>(match KJ n l r with
   |some q=>some (v::q)|none=>none)
  |none=>none
theorem Iv{n:Nat}{l:List (Nat×U)}:∀{os:List Operand}{us:List U},KJ n l os=some us->lZ (fr n l) os=some us
 |[],us,h=>h|o::os,us,h=>by simp only[KJ]at h;rcases h1:bV n l o with _|v;simp[h1]at h;rcases h2:KJ n l os with _|q;simp[h1,h2]at h;simp only[h1,h2]at h;simp only[lZ,eT h1,Iv h2];exact h
def IP(n:Nat)(l:List (Nat×U)):List (Nat×Operand)->Option (List (Nat×U))
 |[]=>some []|(i,x)::r=>match bV n l x with
  |some v=>(match IP n l r with
   |some q=>some ((i,v)::q)|none=>none)
  |none=>none
theorem lr{n:Nat}{l:List (Nat×U)}:∀{os:List (Nat×Operand)}{us:List (Nat×U)},IP n l os=some us->xR (fr n l) os=some us
 |[],us,h=>h|(i,o)::os,us,h=>by simp only[IP]at h;rcases h1:bV n l o with _|v;simp[h1]at h;rcases h2:IP n l os with _|q;simp[h1,h2]at h;simp only[h1,h2]at h;simp only[xR,eT h1,lr h2];exact h
def WJ(l:List (Nat×U)):Option Tmp->U->List (Nat×U)
 |none,_=>l|some d,u=>(d,u)::l
def nj(n:Nat):Option Tmp->Bool
 |none=>true|some d=>Nat.blt d n
theorem wC{d:Option Tmp}(u:U)(hd:nj n d=true):eH (fr n l) d u=fr n (WJ l d u):=by
 rcases d with _|d;rfl;have aG:d<n:=zY hd;refine x_ (by simp[eH,G3]) fun k hk=>?_
 simp only[eH,List.getElem?_set,G3,WJ,mY,beq_eq];by_cases e:d=k;subst e;simp[aG];simp only[e,if_false,yB,zD];exact LA n l hk
section
variable{P:Program}{T:Tb}{aA r:List Oper}{o:Oper}{n:Nat}{l:List (Nat×U)}{O O':Sg}{K:List U->Sg->Prop}{u:U}
variable{C:PG}
variable{d:Tmp}
theorem RS.op(hw:cP aA (fr n l) o=some true)(h:bO T O (fr n l) o.op=some (u,O'))(he:o.dst=some d)(hd:Nat.blt d n=true)(hk:RU C T aA r (fr n ((d,u)::l)) O' K):RU C T aA (o::r) (fr n l) O K :=
 .inl ⟨hw,u,O',h,by rw[he,wC (d:=some d) u hd];exact hk⟩
theorem KD(hw:cP aA (fr n l) o=some true)(h:bO T O (fr n l) o.op=some (u,O'))(he:o.dst=none)(hk:RU C T aA r (fr n l) O' K):RU C T aA (o::r) (fr n l) O K :=
 .inl ⟨hw,u,O',h,by rw[he];exact hk⟩
theorem RS.no(hw:cP aA (fr n l) o=some false)(he:o.dst=some d)(hd:Nat.blt d n=true)(hk:RU C T aA r (fr n ((d,.tup [])::l)) O K):RU C T aA (o::r) (fr n l) O K :=
 .inr (.inr (.inl ⟨hw,by rw[he,wC (d:=some d) _ hd];exact hk⟩))
variable{b:Bool}
theorem RS.nilq{t e ty:TypeId}{xo yo:Operand}{rs:List (List U)}(hw:cP aA (fr n l) o=some true)(ho:o.op=.binOp .eql t xo yo ty)(hd:T.und t=some (.slice e))(hx:bV n l xo=some (.isl b rs))(hy:bV n l yo=some .nils)(he:o.dst=some d)(bD:Nat.blt d n=true)(hk:∀z:Bool,(z=true->rs=[])->RU C T aA r (fr n ((d,.bool z)::l)) O K):RU C T aA (o::r) (fr n l) O K :=
 .inr (.inr (.inr (.inl ⟨hw,t,xo,yo,ty,e,b,rs,ho,hd,eT hx,eT hy,fun z hz=>by rw[he,wC (d:=some d) _ bD];exact hk z hz⟩)))
theorem RS.step{u:U}{O':Sg}(hw:cP aA (fr n l) o=some true)(hs:EC C O (fr n l) o (fun u' O1=>u'=u/\O1=O'))(he:o.dst=some d)(hd:Nat.blt d n=true)(hk:RU C T aA r (fr n ((d,u)::l)) O' K):RU C T aA (o::r) (fr n l) O K :=
 .inr (.inr (.inr (.inr ⟨hw,_,hs,fun u' O1 h=>by rw[h.1,h.2,he,wC (d:=some d) _ hd];exact hk⟩)))
theorem RS.done(h:K (fr n l) O):RU C T aA [] (fr n l) O K:=h
theorem RS.call{f:FuncId}{args:List U}(hw:cP aA (fr n l) o=some true)(hc:jL T (fr n l) o.op=some (f,args))(kE:bA C.prog f args O (fun u' O'=>u'=u/\O'=O))(he:o.dst=some d)(hd:Nat.blt d n=true)(hk:RU C T aA r (fr n ((d,u)::l)) O K):RU C T aA (o::r) (fr n l) O K :=
 RU.pcall hw hc kE (by rw[he,wC (d:=some d) u hd];exact hk)
theorem RS.fcall{C:PG}{f:FuncId}{args args':List U}{O1:Sg}(hw:cP aA (fr n l) o=some true)(hc:jL T (fr n l) o.op=some (f,args))(hg:Gh O.nx args O args' O1)(hn:O.nx<=O1.nx)(kE:bA C.prog f args' O1 (fun u' O'=>u'=u/\O'=O1)){d:Tmp}(he:o.dst=some d)(hd:Nat.blt d n=true)(hk:RU C T aA r (fr n ((d,u)::l)) O1 K):RU C T aA (o::r) (fr n l) O K :=
 RU.fcall hw hc hg hn kE (by rw[he,wC (d:=some d) u hd];exact hk)
variable{j:Nat}
variable{want:Bool}
theorem xI(hg:o.guard=some (j,want))(hj:yO aA j=some d)(hl:bV n l (.tmp d)=some (.bool b))(hb:b=want):cP aA (fr n l) o=some true:=by
 have:=eT hl;simp only[c6]at this;simp[cP,hg,hj,this,hb]
theorem Ut(hg:o.guard=some (j,want))(hj:yO aA j=some d)(hl:bV n l (.tmp d)=some (.bool b))(hb:b= !want):cP aA (fr n l) o=some false:=by
 have:=eT hl;simp only[c6]at this;cases want<;>simp[cP,hg,hj,this,hb]
theorem CF{q:List U}(hg:o.guard=some (j,want))(hj:yO aA j=some d)(hl:bV n l (.tmp d)=some (.tup q)):cP aA (fr n l) o=some false:=by
 have:=eT hl;simp only[c6]at this;simp[cP,hg,hj,this]
end
section
variable{P:Program}{T:Tb}{aA r:List Oper}{o:Oper}{n:Nat}{l:List (Nat×U)}{O O':Sg}{aY:List RK}{K:List RK->List U->Sg->Prop}{u:U}
variable{d:Tmp}
theorem RD.look(hw:cP aA (fr n l) o=some true)(h:bO T O (fr n l) o.op=some (u,O))(he:o.dst=some d)(hd:Nat.blt d n=true)(hk:RH P T aA r (fr n ((d,u)::l)) O ((1,⟨fr n l,o,u,false,false,O,O⟩)::aY) K):RH P T aA (o::r) (fr n l) O aY K :=
 .inl ⟨hw,u,h,by rw[he,wC (d:=some d) u hd];exact hk⟩
theorem RD.act(hw:cP aA (fr n l) o=some true)(h:bO T O (fr n l) o.op=some (u,O'))(he:o.dst=some d)(hd:Nat.blt d n=true)(hk:RH P T aA r (fr n ((d,u)::l)) O' ((3,⟨fr n l,o,u,true,true,O,O'⟩)::aY) K):RH P T aA (o::r) (fr n l) O aY K :=
 .inr (.inl ⟨hw,u,O',h,by rw[he,wC (d:=some d) u hd];exact hk⟩)
theorem KE(hw:cP aA (fr n l) o=some true)(h:bO T O (fr n l) o.op=some (u,O'))(he:o.dst=none)(hk:RH P T aA r (fr n l) O' ((3,⟨fr n l,o,u,true,true,O,O'⟩)::aY) K):RH P T aA (o::r) (fr n l) O aY K :=
 .inr (.inl ⟨hw,u,O',h,by rw[he];exact hk⟩)
theorem RD.no(hw:cP aA (fr n l) o=some false)(he:o.dst=some d)(hd:Nat.blt d n=true)(hk:RH P T aA r (fr n ((d,.tup [])::l)) O ((0,⟨fr n l,o,.tup [],false,false,O,O⟩)::aY) K):RH P T aA (o::r) (fr n l) O aY K :=
 .inr (.inr (.inr (.inr (.inl ⟨hw,by rw[he,wC (d:=some d) _ hd];exact hk⟩))))
theorem RD.free{f:FuncId}{args:List U}(hw:cP aA (fr n l) o=some true)(hc:jL T (fr n l) o.op=some (f,args))(kE:∀s,bA P f args s (fun u' O'=>u'=u/\O'=s))(he:o.dst=some d)(hd:Nat.blt d n=true)(hk:RH P T aA r (fr n ((d,u)::l)) O ((0,⟨fr n l,o,u,false,false,O,O⟩)::aY) K):RH P T aA (o::r) (fr n l) O aY K :=
 .inr (.inr (.inr (.inr (.inr (.inl ⟨hw,u,.inl ⟨f,args,hc,kE⟩,by rw[he,wC (d:=some d) u hd];exact hk⟩)))))
theorem RD.call{f:FuncId}{args:List U}(hw:cP aA (fr n l) o=some true)(hc:jL T (fr n l) o.op=some (f,args))(kE:bA P f args O (fun u' O'=>u'=u/\O'=O)){d:Tmp}(he:o.dst=some d)(hd:Nat.blt d n=true)(hk:RH P T aA r (fr n ((d,u)::l)) O ((2,⟨fr n l,o,u,true,false,O,O⟩)::aY) K):RH P T aA (o::r) (fr n l) O aY K :=
 RH.call hw hc kE (by rw[he,wC (d:=some d) u hd];exact hk)
theorem bF(h:K aY (fr n l) O):RH P T aA [] (fr n l) O aY K:=h
end
def F7(l:List (Nat×U)):List (Nat×U)->Prop
 |[]=>True|(i,u)::r=>mY l i=some u/\F7 l r
theorem qtk{l:List (Nat×U)}:∀{r:List (Nat×U)},F7 l r->∀i u,mY r i=some u->mY l i=some u
 |[],_,i,u,h=>by cases h
 |(j,v)::r,hs,i,u,h=>by simp only[F7]at hs;simp only[mY,beq_eq]at h;by_cases e:j=i;subst e;simp at h;subst h;exact hs.1;simp only[e,yB,zD]at h;exact qtk hs.2 i u h
theorem mb{x:Cx}{tv:List Value}(hl:tv.length=n)(h:∀i u,i<n->mY l i=some u->∃v,tv[i]? = some v/\aD x u v):bB x (fr n l) tv:=by
 refine bB.mk' (by rw[G3,hl]) fun i u hi=>?_;have aG:i<n:=by have:=(zG.1 hi).1;rwa [G3]at this
 rw[LA n l aG]at hi;cases hk:mY l i with
 |none=>rw[hk]at hi;simp at hi;subst hi;exact⟨tv[i],List.getElem?_eq_getElem (by omega),by simp[aD]⟩|some w=>rw[hk]at hi;simp at hi;subst hi;exact h i w aG hk
theorem qt7{x:Cx}{tv:List Value}(he:bB x (fr n l) tv){i:Nat}(hi:i<n)(h:mY l i=some u):∃v,tv[i]? = some v/\aD x u v :=
 he.get (by rw[LA n l hi,h];rfl)
variable{n0:Nat}
variable{l':List (Nat×U)}
variable{O:Sg}
theorem Gh.sub(h:F7 l l'):Gh n0 (fr n l) O (fr n l') O:=fun F x tv hx hr hf he=>
 ⟨x,fun m w hf=>bP.refl hf,hx,hr,hf,mb (by rw[<-he.2,G3]) (fun i u hi hl=>qt7 he hi (qtk h i u hl)),Ke.refl _ _⟩
def ML:Nat->List U->List (Nat×U)
 |_,[]=>[]|i,u::l=>(i,u)::ML (i+1) l
theorem qsj:∀(l:List U)(i k:Nat)(u:U),mY (ML i l) k=some u->i<=k/\l[k-i]? = some u
 |[],i,k,u,h=>by cases h
 |v::l,i,k,u,h=>by simp only[ML,mY,beq_eq]at h;by_cases e:i=k;subst e;simp at h;subst h;simp;simp only[e,yB,zD]at h;obtain⟨h1,h2⟩:=qsj l (i+1) k u h;refine⟨by omega,?_⟩;rw[show k-i=(k-(i+1))+1 by omega];simpa using h2
theorem qwg:∀(n:Nat)(l:List U)(k:Nat)(u:U),l[k]? = some u->(AO n l)[k]? = some u
 |0,l,k,u,h=>h|n+1,[],k,u,h=>by simp at h
 |n+1,v::l,0,u,h=>by simpa[AO]using h
 |n+1,v::l,k+1,u,h=>by simp only[AO,zH]at*;exact qwg n l k u h
theorem ur:∀(n:Nat)(l:List U),l.length<=n->(AO n l).length=n
 |0,l,h=>by simp[AO];exact List.eq_nil_of_length_eq_zero (by omega)
 |n+1,[],h=>by simp[AO,ur n [] (by simp)]
 |n+1,v::l,h=>by simp[AO,ur n l (by simpa using h)]
theorem KF{args:List U}(h:args.length<=n):Gh n0 (AO n args) O (fr n (ML 0 args)) O:=fun F x tv hx hr hf he=>
 ⟨x,fun m w hf=>bP.refl hf,hx,hr,hf,mb (by rw[<-he.2,ur n args h]) (fun i u hi hl=>by obtain⟨_,h2⟩:=qsj args 0 i u hl;exact he.get (qwg n args i u (by simpa using h2))),Ke.refl _ _⟩
def BelS(n:Nat):List (Nat×U)->Prop
 |[]=>True|(_,u)::l=>b7 n u/\BelS n l
theorem qri{n:Nat}:∀{l:List (Nat×U)},BelS n l->∀i u,mY l i=some u->b7 n u
 |[],_,i,u,h=>by cases h
 |(j,v)::l,hb,i,u,h=>by simp only[BelS]at hb;simp only[mY,beq_eq]at h;by_cases e:j=i;subst e;simp at h;subst h;exact hb.1;simp only[e,yB,zD]at h;exact qri hb.2 i u h
theorem X?{n1:Nat}(h:BelS n1 l):aN n1 (fr n l):=by
 rw[PN];intro u hu;obtain⟨i,hi,rfl⟩:=List.getElem_of_mem hu;have aG:i<n:=by rwa [G3]at hi
 have:=LA n l aG;rw[List.getElem?_eq_getElem hi]at this;simp only[zA]at this;rw[this];rcases hk:mY l i with _|w;simp[b7];exact qri h i w hk
theorem Gh.toS{n1:Nat}{O':Sg}(ht:F7 l l')(hs:(⟨Vx.cut n1 O.h,n1⟩:Sg)=O')(h1:n0<=n1)(h2:n1<=O.nx)(hb:BelS n1 l')(hh:E9 n1 O'.h):Gh n0 (fr n l) O (fr n l') O':=by
 subst hs;exact(Gh.sub ht).trans (Gh.cut h1 h2 (X? hb) hh)
theorem kJ{O':Sg}(ht:F7 l l')(hs:O=O'):Gh n0 (fr n l) O (fr n l') O':=by
 subst hs;exact Gh.sub ht
def fzS(K:Nat)(b:B)(sz:Nat):List (Nat×U)->List (Nat×U)
 |[]=>[]|(i,u)::l=>(i,fz K b sz u)::fzS K b sz l
theorem qw1(K:Nat)(b:B)(sz:Nat):∀(l:List (Nat×U))(i:Nat),mY (fzS K b sz l) i=(mY l i).map (fz K b sz)
 |[],i=>rfl|(j,u)::l,i=>by simp only[fzS,mY,beq_eq,qw1 K b sz l i];by_cases e:j=i<;>simp[e]
theorem YZ(K:Nat)(b:B)(sz n:Nat)(l:List (Nat×U)):lA K b sz (fr n l)=fr n (fzS K b sz l):=by
 refine x_ (by rw[V8,G3]) fun k hk=>?_;have hm:∀(t:List U)(k:Nat),(lA K b sz t)[k]? = (t[k]?).map (fz K b sz):=by
  intro t;induction t with
  |nil=>intro k;simp[lA]|cons u t ih=>intro k;cases k<;>simp[lA,ih]
 rw[hm,LA n l hk,qw1];rcases mY l k with _|w;simp[PE];rfl
theorem Gh.fzS{h':List (Nat×B)}(K:Nat)(b:B)(sz:Nat)(hg:gt O.h K=some b)(hb:∀es cl,b≠.map es cl)(ht:Vx.fzS K b sz l=l')(hh:fzH K b sz O.h=h'):Gh n0 (fr n l) O (fr n l') ⟨h',O.nx⟩:=by
 subst ht;subst hh;rw[<-YZ];exact Gh.freeze sz hg hb
inductive Fx:List (Nat×U)->List (Nat×U)->Prop
 |nil:Fx [] []
 |cons {i:Nat} {u u':U} {l l':List (Nat×U)} (h:Wk u u') (h':Fx l l'):Fx ((i,u)::l) ((i,u')::l')
theorem Fx.look:∀{l l':List (Nat×U)},Fx l l'->∀i u',mY l' i=some u'->∃u,mY l i=some u/\Wk u u'
 |_,_,.nil,i,u',h=>by cases h
 |_,_,.cons (i:=j) h h',i,u',hu=>by simp only[mY,beq_eq]at hu ⊢;by_cases e:j=i;subst e;simp at hu;subst hu;exact⟨_,by simp,h⟩;simp only[e,yB,zD]at hu ⊢;exact h'.look i u' hu
theorem Gh.wkS(h:Fx l l'):Gh n0 (fr n l) O (fr n l') O:=fun F x tv hx hr hf he=>
 ⟨x,fun m w hf=>bP.refl hf,hx,hr,hf,mb (by rw[<-he.2,G3]) (fun i u hi hl=>by obtain⟨w,h1,h2⟩:=h.look i u hl;obtain⟨v,h3,h4⟩:=qt7 he hi h1;exact⟨v,h3,h2.rel h4⟩),Ke.refl _ _⟩
theorem Au(i:Nat)(e:TypeId)(sz:Nat)(dS:0<sz)(h0:n0<=O.nx)(hi:bV n l (.tmp i)=some .nils)(hd:nj n (some i)=true):Gh n0 (fr n l) O (fr n ((i,.vl O.nx 0 0 0)::l)) (newU O (.vec [] e sz 0)):=by
 have h1:=eT hi;have h2:=Gh.nilvec (n0:=n0) (O:=O) i e sz dS h0 (tm:=fr n l) h1;have h3:=wC (n:=n) (l:=l) (d:=some i) (.vl O.nx 0 0 0) hd;simp only[eH,WJ]at h3
 rwa [h3]at h2
variable{c:Operand}
variable{t:Bool}
theorem vV{C:PG}{Q:Exit->List U->Sg->Prop}{p q:Code}(hc:bV n l c=some (.bool t))(h1:t=true->WPU C n0 p (fr n l) O Q)(h2:t=false->WPU C n0 q (fr n l) O Q):WPU C n0 (.cond c p q) (fr n l) O Q:=WPU.cond (eT hc) h1 h2
variable{T:Tb}
variable{us:List U}
theorem eO{t:Tmp}{rs:List ResultVar}(h:bV n l (.tmp t)=some u)(hr:nM T O (fr n l) rs=some us):nM T O (fr n l) (.tmp t::rs)=some (u::us):=by
 have:=eT h;simp only[c6]at this;simp[nM,this,hr]
theorem dV:nM T O (fr n l) []=some []:=rfl
variable{t:TypeId}
theorem pK{a:Tmp}{rs:List ResultVar}(h:bO T O (fr n l) (.load t (.tmp a))=some (u,O))(hr:nM T O (fr n l) rs=some us):nM T O (fr n l) (.cell a t::rs)=some (u::us):=by
 have:pL T O (fr n l) (.load t (.tmp a))=some u:=by have hp:i8 T O (fr n l) (.load t (.tmp a))=none:=rfl;have he:nO T O (fr n l) (.load t (.tmp a))=none:=rfl;unfold bO at h;rw[hp]at h;simp only at h;rcases hr:pL T O (fr n l) (.load t (.tmp a))with _|v;rw[hr,he]at h;cases h;rw[hr]at h;simp at h;rw[h]
 simp[nM,this,hr]
section
variable{T:Tb}{O O':Sg}{n:Nat}{l:List (Nat×U)}{u v w:U}
theorem uJ{op:Op}(h:i8 T O (fr n l) op=some u):bO T O (fr n l) op=some (u,O):=by simp[bO,h]
theorem KH{op:Op}(h0:i8 T O (fr n l) op=none)(h:pL T O (fr n l) op=some u):bO T O (fr n l) op=some (u,O):=by simp[bO,h,h0]
variable{q:U×Sg}
theorem FA{op:Op}(h0:i8 T O (fr n l) op=none)(h1:pL T O (fr n l) op=none)(h:nO T O (fr n l) op=some q):bO T O (fr n l) op=some q:=by simp[bO,h,h0,h1]
variable{x:Operand}
theorem g8(h:bV n l x=some u):bO T O (fr n l) (.move x)=some (u,O):=uJ (eT h)
theorem qst(h:bV n l x=some u):bO T O (fr n l) (.assign x)=some (u,O):=uJ (eT h)
variable{a:Operand}
theorem qwd{b:Operand}{t:Bool}(hc:bV n l c=some (.bool t))(ht:t=true)(h:bV n l a=some u):bO T O (fr n l) (.pick c a b)=some (u,O):=uJ (by subst ht;simp only[i8,eT hc];exact eT h)
theorem qwc{b:Operand}{t:Bool}(hc:bV n l c=some (.bool t))(ht:t=false)(h:bV n l b=some u):bO T O (fr n l) (.pick c a b)=some (u,O):=uJ (by subst ht;simp only[i8,eT hc];exact eT h)
variable{off:Nat}
theorem dD{st:Nat}(h:bV n l x=some (.ptr k st off))(hl:c7 O k st=true):bO T O (fr n l) (.nilCheck x)=some (.ptr k st off,O):=uJ (by simp only[i8,eT h,hl,zC])
theorem Js{ps:Array (Nat×Operand)}{qs:List (Nat×U)}(h:IP n l ps.toList=some qs)(hb:Bt T t qs=some u):bO T O (fr n l) (.build t ps)=some (u,O):=uJ (by simp only[i8,lr h,hb])
variable{t':TypeId}
variable{y:Operand}
theorem yb{op:BinOp}(hx:bV n l x=some v)(hy:bV n l y=some w)(h:g2 (sS T op t) v w=some u):bO T O (fr n l) (.binOp op t x y t')=some (u,O):=uJ (by simp only[i8,eT hx,eT hy,IA,h])
theorem WS{op:BinOp}(hx:bV n l x=some v)(hy:bV n l y=some w)(h0:g2 (sS T op t) v w=none)(h:Bp T O op t v w=some u):bO T O (fr n l) (.binOp op t x y t')=some (u,O):=uJ (by simp only[i8,eT hx,eT hy,IA,h0,h])
variable{k:IntKind}
variable{r:Value}
theorem vH{op:BinOp}{k':IntKind}{a b:Int}(hx:bV n l x=some (.int k a))(hy:bV n l y=some (.int k' b))(h:jI op k a k' b=some r)(hr:iH r=some u):bO T O (fr n l) (.binOp op t x y t')=some (u,O):=yb hx hy (by simp only[g2,toV,sS,h,hr])
theorem EH{op:BinOp}{a b:List UInt8}(hx:bV n l x=some (.str a))(hy:bV n l y=some (.str b))(h:FQ op ⟨⟨a⟩⟩ ⟨⟨b⟩⟩=some r)(hr:iH r=some u):bO T O (fr n l) (.binOp op t x y t')=some (u,O):=yb hx hy (by simp only[g2,toV,sS,h,hr])
theorem QC{op:UnOp}(hx:bV n l x=some v)(h:toV v=some (r)){q:Value}(hu:OD op r=some q)(hq:iH q=some u):bO T O (fr n l) (.unOp op t x)=some (u,O):=uJ (by simp only[i8,eT hx,g1,h,hu,hq])
theorem Ws{s d:TypeId}{q:Value}(hx:bV n l x=some v)(h:toV v=some r)(hu:convX T s d r=some q)(hq:iH q=some u):bO T O (fr n l) (.convert s d x)=some (u,O):=uJ (by simp only[i8,eT hx,g1,h,hu,hq])
theorem In{f:Fn}{first cap:Array Operand}{a b:List U}(h1:KJ n l first.toList=some a)(h2:KJ n l cap.toList=some b):bO T O (fr n l) (.makeFunc f first cap)=some (.fn f a b,O):=uJ (by simp only[i8,Iv h1,Iv h2])
variable{k:Nat}
theorem kM{f:Nat}{fs:Array Field}{fd:Field}{s st:Nat}(hd:T.und t=some (.struct fs))(hf:nth fs.toList f=some fd)(hs:cC T fd.type=some (s+1))(hx:bV n l x=some (.ptr k st off))(hl:c7 O k st=true){gS:Nat}(ho:off+fd.offset=gS):bO T O (fr n l) (.fieldAddr t x f)=some (.ptr k st gS,O):=uJ (by subst ho;simp only[i8,eT hx,Kc,hd,hf,hs,hl,zC])
variable{q:List U}
theorem vg{f:Nat}{fs:Array Field}{fd:Field}{s:Nat}(hd:T.und t=some (.struct fs))(hf:nth fs.toList f=some fd)(hs:cC T fd.type=some (s+1))(hx:bV n l x=some (.iptr q)){q':List U}(hq:q.drop fd.offset=q'):bO T O (fr n l) (.fieldAddr t x f)=some (.iptr q',O):=uJ (by subst hq;simp only[i8,eT hx,Kc,hd,hf,hs])
theorem g_{i:Nat}(hx:bV n l x=some (.tup q))(h:nth q i=some u):bO T O (fr n l) (.extract x i)=some (u,O):=uJ (by simp only[i8,eT hx,Xh,h])
theorem dZ{i:Operand}(hx:bV n l x=some v)(hi:bV n l i=some w)(h:EM T O t v w=some u):bO T O (fr n l) (.indexAddr t x i)=some (u,O):=uJ (by simp only[i8,eT hx,eT hi,h])
variable{X:Type}
variable{e:TypeId}
variable{sz:Nat}
variable{b:Bool}
variable{xs:List X}
variable{i:Int}
theorem Bq(c:X->List U){k:IntKind}{x:X}(hd:T.und t=some (.slice e))(hs:cC T e=some sz)(hc:∀x,(c x).length=sz)(hx:aB xs i=some x)(hq:c x=q):EM T O t (.isl b (xs.map c)) (.int k i)=some (.iptr q):=by
 subst hq;obtain⟨h1,h2,h3⟩:=qzt c hx;have:Nat.beq (c x).length sz=true:=by simp[beq_eq,hc]
 simp only[EM,hd,hs,yA,h1,h2,and_self,if_true,h3,this,zC]
variable{e':TypeId}
variable{K:Nat}
theorem fK(c:X->List U){st:Nat}{k:IntKind}{x:X}(hd:T.und t=some (.slice e))(hs:cC T e=some sz)(hz:0<sz)(hc:∀x,(c x).length=sz)(hv:xJ O K st=some ((xs.map c).flatten,e',sz))(hx:aB xs i=some x):EM T O t (.vl K st 0 xs.length) (.int k i)=some (.ptr K st (0*sz+i.toNat*sz)):=by
 obtain⟨h1,h2,h3⟩:=Xf hx;have cW:=TA hc hz hx;have hb:Nat.beq sz sz=true:=by simp[beq_eq]
 simp only[EM,hd,hs,hv,hb,zC,h1,h2,ne_eq,cW,not_false_eq_true,and_self,if_true]
variable{d:TypeDesc}
theorem OZ(c:X->List U){st:Nat}{x:X}(hd:T.und t=some d)(ha:qA d=true)(hs:cC T t=some sz)(hc:∀x,(c x).length=sz)(ho:bV n l o=some (.ptr K st (0*sz+i.toNat*sz)))(hv:gt O.h K=some (.vec (xs.map c).flatten e' sz st))(hx:aB xs i=some x)(hq:c x=q):bO T O (fr n l) (.load t o)=some (.agg q,O):=by
 subst hq;refine KH rfl ?_;have hb:Nat.beq st st=true:=by simp[beq_eq]
 simp only[pL,eT ho,cellsOf,hv,hb,zC,EB,hd,ha,hs,S_ hc hx]
theorem qN(c:X->List U){st:Nat}{x:X}(f:X->U)(hd:T.und t=some d)(ha:qA d=false)(hc:∀x,c x=[f x])(ho:bV n l o=some (.ptr K st (0*1+i.toNat*1)))(hv:gt O.h K=some (.vec (xs.map c).flatten e' 1 st))(hx:aB xs i=some x):bO T O (fr n l) (.load t o)=some (f x,O):=by
 refine KH rfl ?_;have hb:Nat.beq st st=true:=by simp[beq_eq]
 simp only[pL,eT ho,cellsOf,hv,hb,zC,EB,hd,ha,zD,z7v (fun x=>by rw[hc];rfl) hc hx]
theorem nR{lo hi mx:Option Operand}{a b c:Option Value}(hx:bV n l x=some v)(h1:vI (fr n l) lo=some a)(h2:vI (fr n l) hi=some b)(h3:vI (fr n l) mx=some c)(h:OX T O t v a b c=some u):bO T O (fr n l) (.slice t x lo hi mx)=some (u,O):=uJ (by simp only[i8,eT hx,h1,h2,h3,h])
theorem fJ:vI (fr n l) none=some none:=rfl
theorem nN{k:IntKind}{z:Int}(h:bV n l o=some (.int k z)):vI (fr n l) (some o)=some (some (.int k z)):=by simp only[vI,eT h]
theorem vG(c:X->List U){a h m:Nat}{ys:List X}{lo hi:Option Value}(hd:T.und t=some (.slice e))(hs:cC T e=some sz)(hc:∀x,(c x).length=sz)(hb:g9 xs.length xs.length lo hi none=some (a,h,m))(hy:oO (xs.map c) a h=ys.map c):OX T O t (.isl b (xs.map c)) lo hi none=some (.isl (cond b (Nat.beq h xs.length) false) (ys.map c)):=by
 simp only[OX,hd,hs,qye hc xs,if_true,yA,hb,hy]
variable{args:Array Operand}
variable{ts:Array TypeId}
theorem JC(ha:args.toList=[x]){q:List TypeId}(ht:ts.toList=t::q)(hx:bV n l x=some v)(h:lenU T O t v=some u):bO T O (fr n l) (.call { callee:=.builtin .len,args:=args,argTypes:=ts })=some (u,O):=uJ (by simp only[i8,ha,ht,lZ,eT hx,h])
theorem z73(c:X->List U)(hd:T.und t=some (.slice e)):lenU T O t (.isl b (xs.map c))=some (.int .i64 xs.length):=by simp[lenU,hd]
theorem WU{xs:List Operand}{a:Value}{b:List Value}(ha:args.toList=x::xs)(hx:bV n l x=some v)(hl:KJ n l xs=some us)(h1:toV v=some a)(h2:eL us=some b)(h:xN OT a b=some r)(hr:iH r=some u):bO T O (fr n l) (.call { callee:=.builtin .min,args:=args,argTypes:=ts })=some (u,O):=uJ (by simp only[i8,ha,lZ,eT hx,Iv hl,h1,h2,h,hr])
variable{cs:List U}
theorem pZ{st:Nat}(hd:T.und t=some d)(ha:qA d=true)(hs:cC T t=some sz)(hx:bV n l x=some (.ptr k st off))(hc:cellsOf O k st=some q)(h:jX q off sz=some cs):bO T O (fr n l) (.load t x)=some (.agg cs,O):=KH rfl (by simp only[pL,eT hx,hc,EB,hd,ha,hs,h,zC])
theorem nQ{st:Nat}(hd:T.und t=some d)(ha:qA d=false)(hx:bV n l x=some (.ptr k st off))(hc:cellsOf O k st=some q)(h:nth q off=some u):bO T O (fr n l) (.load t x)=some (u,O):=KH rfl (by simp only[pL,eT hx,hc,EB,hd,ha,h,zD])
theorem k_(hd:T.und t=some d)(ha:qA d=true)(hs:cC T t=some sz)(hx:bV n l x=some (.iptr q))(h:jX q 0 sz=some cs):bO T O (fr n l) (.load t x)=some (.agg cs,O):=KH rfl (by simp only[pL,eT hx,EB,hd,ha,hs,h,zC])
theorem Iq(hd:T.und t=some d)(ha:qA d=false)(hx:bV n l x=some (.iptr q))(h:nth q 0=some u):bO T O (fr n l) (.load t x)=some (u,O):=KH rfl (by simp only[pL,eT hx,EB,hd,ha,h,zD])
theorem WV(hx:bV n l x=some v)(h:vJ v=some cs)(hk:okL cs=true):bO T O (fr n l) (.box e x)=some (.ptr O.nx 0 0,newU O (.row cs e)):=FA rfl rfl (by simp only[nO,eT hx,h,hk,zC])
variable{z:Value}
theorem z46{a b:Nat}{zu:List U}(hi:T.inf e=some (a,b,z))(hz:pH z.cells.toList=some zu)(hk:okL zu=true):bO T O (fr n l) (.alloc e)=some (.ptr O.nx 0 0,newU O (.row zu e)):=FA rfl rfl (by simp only[nO,hi,hz,hk,zC])
theorem z4b{st:Nat}{q':List U}(hs:cC T t=some sz)(ha:bV n l a=some (.ptr k st off))(hx:bV n l x=some v)(hc:vJ v=some cs)(hl:Nat.beq cs.length sz=true)(hk:okL cs=true)(hg:cellsOf O k st=some q)(hp:oM q off (DX O k cs)=some q')(B4:JA O k q'=some O'):bO T O (fr n l) (.store t a x)=some (.junk,O'):=FA rfl rfl (by simp only[nO,eT ha,eT hx,US,hs,hc,hl,hk,zC,hg,hp,B4])
theorem v03{ps:Array (Nat×Operand)}{qs:List (Nat×U)}{q:U×Sg}(h:IP n l ps.toList=some qs)(hb:Kk T O t k qs=some q):bO T O (fr n l) (.buildSlice t k ps)=some q:=FA rfl rfl (by simp only[nO,lr h,hb])
theorem Od{q:U×Sg}(hx:bV n l x=some v)(hy:bV n l y=some w)(hb:Gd T O t v w=some q):bO T O (fr n l) (.makeSlice t x y)=some q:=FA rfl rfl (by simp only[nO,eT hx,eT hy,hb])
variable{xt:TypeId}
theorem AW{q:U×Sg}(ha:args.toList=[x,y])(ht:ts.toList=[t,xt])(hx:bV n l x=some v)(hy:bV n l y=some w)(h:JG T O t xt v w=some q):bO T O (fr n l) (.call { callee:=.builtin .append,args:=args,argTypes:=ts })=some q:=FA rfl rfl (by simp only[nO,ha,ht,lZ,eT hx,eT hy,Xk,h])
theorem gG{c:Call}{f:Operand}{g:FuncId}{fn:Func}{first cap a7:List U}(hc:c.callee=.value f)(hf:bV n l f=some (.fn (.func g) first cap))(hg:T.fn g=some fn)(hb:fn.body.isSome=true)(ha:KJ n l c.args.toList=some a7){args:List U}(he:first++a7++cap=args):jL T (fr n l) (.call c)=some (g,args):=by subst he;simp only[jL,hc,eT hf,hg,hb,zC,Iv ha]
variable{e2:TypeId}
variable{by_:Nat}
theorem ub(c:X->List U)(ys:List X)(hd:T.und t=some (.slice e))(d6:T.und xt=some (.slice e2))(hi:T.inf e=some (sz+1,by_,z))(hz:Nat.beq z.cells.toList.length (sz+1)=true)(hw:uI O (sz+1) w=some (ys.length,(ys.map c).flatten))(hr:ys.length*by_<=140737488355328/\ys.length<=140737488355328):JG T O t xt .nils w=some (.vl O.nx 0 0 ys.length,newU O (.vec (ys.map c).flatten e (sz+1) 0)):=by
 simp only[JG,hd,d6,hi,hz,zC,hw,hr,and_self,if_true]
theorem uc(c:X->List U)(ys:List X){a:Nat}(hd:T.und t=some (.slice e))(d6:T.und xt=some (.slice e2))(hi:T.inf e=some (sz+1,by_,z))(hz:Nat.beq z.cells.toList.length (sz+1)=true)(hq:rowOf O a=some q)(ho:Nat.ble off q.length=true)(hw:uI O (sz+1) w=some (ys.length,(ys.map c).flatten))(hr:ys.length*by_<=140737488355328/\ys.length<=140737488355328):JG T O t xt (.sl a off 0 0) w=some (.vl O.nx 0 0 ys.length,newU O (.vec (ys.map c).flatten e (sz+1) 0)):=by
 have af:=zY ho;have:jX q off (0*(sz+1))=some []:=by simp[jX,af]
 simp only[JG,hd,d6,hi,hz,zC,hw,hq,this,hr,and_self,if_true]
theorem P9(c:X->List U)(ys:List X){a st:Nat}(hd:T.und t=some (.slice e))(d6:T.und xt=some (.slice e2))(hi:T.inf e=some (sz+1,by_,z))(hz:Nat.beq z.cells.toList.length (sz+1)=true)(hc:∀x,(c x).length=sz+1)(hg:gt O.h a=some (.vec (xs.map c).flatten e (sz+1) st))(hw:uI O (sz+1) w=some (ys.length,(ys.map c).flatten))(hr:(xs.length+ys.length)*by_<=140737488355328/\xs.length+ys.length<=140737488355328):JG T O t xt (.vl a st 0 xs.length) w=some (.vl a (st+1) 0 (xs++ys).length,⟨ug O.h a (.vec ((xs++ys).map c).flatten e (sz+1) (st+1)),O.nx⟩):=by
 have b1:Nat.beq st st=true:=by simp[beq_eq]
 have b2:Nat.beq e e=true:=by simp[beq_eq]
 have b3:Nat.beq (sz+1) (sz+1)=true:=by simp[beq_eq]
 have hs:=z7o hc xs;have hl:=JJ hc xs;rw[z3m,zU];simp only[JG,hd,d6,hi,hz,zC,hw,hg,b1,b2,b3,hs,hl,hr.1,hr.2,true_and,and_true,or_true,if_true]
theorem Jf(c:X->List U)(hc:∀x,(c x).length=sz):uI O sz (.isl b (xs.map c))=some (xs.length,(xs.map c).flatten):=by simp only[uI,qye hc xs,if_true,yA]
theorem Je(c:X->List U)(ys:List X)(hq:rowOf O K=some q)(hs:jX q off (k*sz)=some cs)(hl:k=ys.length)(hc:pU cs=(ys.map c).flatten):uI O sz (.sl K off k k)=some (ys.length,(ys.map c).flatten):=by
 subst hl;simp only[uI,hq,hs,hc]
theorem aW{a b:Nat}(h:T.inf t=some (a,b,z)):cC T t=some a:=by simp only[cC,h]
theorem vo{st:Nat}(h:gt O.h K=some (.vec q e sz st)):xJ O K st=some (q,e,sz):=by
 have b:Nat.beq st st=true:=by simp[beq_eq]
 simp only[xJ,h,b,zC]
theorem l_{st m:Nat}(hd:T.und t=some (.slice e))(h:gt O.h K=some (.vec q e' sz st)):lenU T O t (.vl K st 0 m)=some (.int .i64 m):=by
 have b:Nat.beq st st=true:=by simp[beq_eq]
 simp only[lenU,hd,c7,h,B.st,b,zC]
end
theorem XN(k:IntKind)(a b:Int):jI .add k a k b=some (.int k (k.wrap (a+b))):=by simp[jI]
theorem n_(k:IntKind)(a b:Int):jI .sub k a k b=some (.int k (k.wrap (a-b))):=by simp[jI]
theorem XH(k:IntKind)(a b:Int):jI .mul k a k b=some (.int k (k.wrap (a*b))):=by simp[jI]
theorem Vy(k:IntKind){a b:Int}(h:¬ b=0):jI .quo k a k b=some (.int k (k.wrap (a.tdiv b))):=by simp[jI,h]
theorem p_(k:IntKind){a b:Int}(h:¬ b=0):jI .rem k a k b=some (.int k (a.tmod b)):=by simp[jI,h]
theorem XM(k:IntKind)(a b:Int):jI .eql k a k b=some (.bool (a==b)):=by simp[jI]
theorem XG(k:IntKind)(a b:Int):jI .neq k a k b=some (.bool (a != b)):=by simp[jI]
theorem XI(k:IntKind)(a b:Int):jI .lss k a k b=some (.bool (decide (a<b))):=by simp[jI]
theorem XJ(k:IntKind)(a b:Int):jI .leq k a k b=some (.bool (decide (a<=b))):=by simp[jI]
theorem XK(k:IntKind)(a b:Int):jI .gtr k a k b=some (.bool (decide (a>b))):=by simp[jI]
theorem XL(k:IntKind)(a b:Int):jI .geq k a k b=some (.bool (decide (a>=b))):=by simp[jI]
theorem Gh.row{n0:Nat}{tm:List U}{O:Sg}{K:Nat}{q q':List U}{e:TypeId}(hg:gt O.h K=some (.row q e))(hk:okL q'=true)(fX:∀x vs,x.O=O->jZ x->bB x q vs->bB x q' vs):Gh n0 tm O tm ⟨ug O.h K (.row q' e),O.nx⟩:=fun F x tv hx hr hf he=>by
 subst hx
 let y:Cx:=⟨x.Y,⟨ug x.O.h K (.row q' e),x.O.nx⟩,x.s⟩
 have N5:∀k,gt y.O.h k=if K=k then some (.row q' e)else gt x.O.h k:=fun k=>by show gt (ug x.O.h K (.row q' e)) k=_;rw[OU,hg];rfl
 have fM:Mo x.O.nx x y:=⟨fun k _ h2=>⟨h2,fun b hb=>by rw[N5]at hb;by_cases ek:K=k;subst ek;simp only[if_true,zA]at hb;subst hb;exact⟨_,hg,zF _,fun _=>⟨rfl,fun l e sz st h=>by cases h⟩⟩;simp only[ek,if_false]at hb;exact⟨b,hb,zF _,fun _=>⟨rfl,fun l e sz st h=>⟨l,h⟩⟩⟩⟩,fun _ _ _ h=>h⟩;refine⟨y,fun m w hf=>bP.refl hf,rfl,⟨fun k b hb=>?_,fun k k' b b' i hb cQ=>?_,hr.bd⟩,fun i b J=>?_,fM.ke.E he.bel he,fun u v hb hr=>fM.ke u v (aD.bel u v hr) hr⟩;rw[N5]at hb;by_cases ek:K=k;subst ek;simp only[if_true,zA]at hb;subst hb;obtain⟨h1,k1,i,l',e1,e2,e3⟩:=hr.ok K _ hg;have:=fX x l' rfl hr e3;exact⟨h1,hk,i,l',e1,e2,fM.ke.E this.bel this⟩;simp only[ek,if_false]at hb;obtain⟨h1,h2⟩:=hr.ok k b hb;exact⟨h1,h2.mono fM rfl fun _ _ _ h=>h⟩;have old:∀k b,gt y.O.h k=some b->∃c,gt x.O.h k=some c:=fun k b hb=>by rw[N5]at hb;by_cases ek:K=k;subst ek;exact⟨_,hg⟩;simp only[ek,if_false]at hb;exact⟨b,hb⟩
 obtain⟨c,hc⟩:=old k b hb;obtain⟨c',lQ⟩:=old k' b' cQ;exact hr.inj k k' c c' i hc lQ;obtain⟨h1,h2⟩:=hf i b J;refine⟨h1,fun k c hc=>?_⟩;rw[N5]at hc;by_cases ek:K=k;subst ek;exact h2 _ _ hg;simp only[ek,if_false]at hc;exact h2 k c hc
theorem Gh.fresh{n0:Nat}{tm:List U}{O:Sg}(e:TypeId)(sz:Nat)(dS:0<sz)(h0:n0<=O.nx):Gh n0 tm O tm (newU O (.vec [] e sz 0)):=fun F x tv hx hr hf he=>by
 subst hx;have ho:=Xn hr e sz dS;exact⟨⟨lM x.Y x.O.nx none,newU x.O (.vec [] e sz 0),x.s⟩,fun m w hf=>bP.refl hf,rfl,ho.h,ho.fr F hf,ho.mo.ke.E he.bel he,ho.mo.ke.le h0⟩
theorem u9{n0:Nat}{tm:List U}{O:Sg}(K i:Nat){q:List U}{e0:TypeId}(e:TypeId)(sz:Nat)(dS:0<sz)(h0:n0<=O.nx)(hg:gt O.h K=some (.row q e0))(hi:nth q i=some .nils):Gh n0 tm O tm ⟨ug (newU O (.vec [] e sz 0)).h K (.row (q.set i (.vl O.nx 0 0 0)) e0),O.nx+1⟩:=fun F x tv hx hr hf he=>by
 subst hx;have hK:=(hr.ok K _ hg).1;obtain⟨_,k1,_⟩:=hr.ok K _ hg;have ho:=Xn hr e sz dS;rw[iQ]at hi
 let y:Cx:=⟨lM x.Y x.O.nx none,newU x.O (.vec [] e sz 0),x.s⟩
 have N4:gt y.O.h K=some (.row q e0):=by show gt ((x.O.nx,_)::x.O.h) K=_;rw[lG,if_neg (by omega),hg]
 let z:Cx:=⟨y.Y,⟨ug y.O.h K (.row (q.set i (.vl x.O.nx 0 0 0)) e0),y.O.nx⟩,y.s⟩
 have N5:∀k,gt z.O.h k=if K=k then some (.row (q.set i (.vl x.O.nx 0 0 0)) e0)else gt y.O.h k:=fun k=>by show gt (ug y.O.h K _) k=_;rw[OU,N4];rfl
 have fM:Mo y.O.nx y z:=⟨fun k _ h2=>⟨h2,fun b hb=>by rw[N5]at hb;by_cases ek:K=k;subst ek;simp only[if_true,zA]at hb;subst hb;exact⟨_,N4,zF _,fun _=>⟨rfl,fun l e sz st h=>by cases h⟩⟩;simp only[ek,if_false]at hb;exact⟨b,hb,zF _,fun _=>⟨rfl,fun l e sz st h=>⟨l,h⟩⟩⟩⟩,fun _ _ _ h=>h⟩;have hey:=ho.mo.ke.E he.bel he;have hfy:=ho.fr F hf;refine⟨z,fun m w hf=>bP.refl hf,rfl,⟨fun k b hb=>?_,fun k k' b b' j hb cQ=>?_,ho.h.bd⟩,fun j b J=>?_,fM.ke.E hey.bel hey,fun u v hb hr=>fM.ke u v (aD.bel u v (ho.mo.ke.le h0 u v hb hr)) (ho.mo.ke.le h0 u v hb hr)⟩;rw[N5]at hb;by_cases ek:K=k;subst ek;simp only[if_true,zA]at hb;subst hb;obtain⟨h1,k1,j,l',e1,e2,e3⟩:=ho.h.ok K _ N4;refine⟨h1,?_,j,l',e1,e2,?_⟩;refine(LC _).2 fun u hu=>?_;rcases List.mem_or_eq_of_mem_set hu with h |h
 exact(LC q).1 k1 u h;subst h;rfl;obtain⟨v,h3,h4⟩:=e3.get hi;simp only[aD]at h4;subst h4;have:=e3.set i (gu (x:=x) (e:=e) (sz:=sz) (o:=none) (by simp));rw[qwy h3]at this;exact fM.ke.E this.bel this;simp only[ek,if_false]at hb;obtain⟨h1,h2⟩:=ho.h.ok k b hb;exact⟨h1,h2.mono fM rfl fun _ _ _ h=>h⟩;have old:∀k b,gt z.O.h k=some b->∃c,gt y.O.h k=some c:=fun k b hb=>by rw[N5]at hb;by_cases ek:K=k;subst ek;exact⟨_,N4⟩;simp only[ek,if_false]at hb;exact⟨b,hb⟩
 obtain⟨c,hc⟩:=old k b hb;obtain⟨c',lQ⟩:=old k' b' cQ;exact ho.h.inj k k' c c' j hc lQ;obtain⟨h1,h2⟩:=hfy j b J;refine⟨h1,fun k c hc=>?_⟩;rw[N5]at hc;by_cases ek:K=k;subst ek;exact h2 _ _ N4;simp only[ek,if_false]at hc;exact h2 k c hc
theorem kN(k:IntKind)(x:Int):(cI k x).length=1:=rfl
theorem X6(x:Bool):(cB x).length=1:=rfl
theorem L8(x:List UInt8):(cS x).length=1:=rfl
theorem G2{X:Type}(c:X->List U)(x:List X):(cL c x).length=1:=rfl
section
variable{T:Tb}{O O':Sg}{n:Nat}{l:List (Nat×U)}{u v w:U}
theorem rl{a b:List UInt8}(h:a.length+b.length<=9223372036854775807):FQ .add ⟨⟨a⟩⟩ ⟨⟨b⟩⟩=some (.string ⟨(a++b).toArray⟩):=by
 have:¬ (((a.length+b.length:Nat):Int)>9223372036854775807):=by omega
 simp only[FQ,this,if_false]
end
theorem bA.post{P:Program}{f:FuncId}{args:List U}{O:Sg}{R R':U->Sg->Prop}(h:bA P f args O R)(hg:∀u O1,R u O1->∃u' O5,O.nx<=O5.nx/\Gh O.nx [u] O1 [u'] O5/\R' u' O5):bA P f args O R':=fun F x vs m w bH hx hh m9 he fH d9=>by
 refine(h F x vs m w bH hx hh m9 he fH d9).mono ?_;rintro e w₁ ⟨y,aJ,u,v,cv,h1,h2,h3,h4,h5,h6,h7,h8,h9⟩;obtain⟨u',O5,g1,g2,g3⟩:=hg u y.O h2;obtain⟨z,z1,z2,z3,z4,z5,z6⟩:=g2 F y [v] rfl h5 h6 (bB.cons h7 (bB.nil y));obtain⟨v0,Gj,e0,z7,_⟩:=z5.inv;cases e0;have dA:=z1 aJ w₁ h3.fits;exact⟨z,aJ,u',v,cv,h1,z2 ▸ g3,h3.trans dA,h4.ext (aK.refl _ _) dA.nx,z3,z4,z7,by rw[hx]at h8 ⊢;exact h8.trans z6,by rw[hx,z2];exact g1⟩
mutual
theorem me(Z:Nat->Nat):(u:U)->b7 0 u->rU Z u=u
 |.ptr k _ _,h=>by simp[b7]at h
 |.sl k _ _ _,h=>by simp[b7]at h
 |.vl k _ _ _,h=>by simp[b7]at h
 |.map k,h=>by simp[b7]at h
 |.iptr l,h=>by simp only[b7]at h;simp[rU,JH Z l h]
 |.isl t l,h=>by simp only[b7]at h;simp[rU,uq Z l h]
 |.fn f a b,h=>by simp only[b7]at h;simp[rU,JH Z a h.1,JH Z b h.2]
 |.agg l,h=>by simp only[b7]at h;simp[rU,JH Z l h]
 |.tup l,h=>by simp only[b7]at h;simp[rU,JH Z l h]
 |.junk,_=>rfl|.bool _,_=>rfl
 |.int _ _,_=>rfl|.str _,_=>rfl
 |.nilp,_=>rfl|.nils,_=>rfl
 |.nilm,_=>rfl|.nilf,_=>rfl
 |.nili,_=>rfl
theorem JH(Z:Nat->Nat):(l:List U)->aN 0 l->iD Z l=l
 |[],_=>rfl|u::l,h=>by simp only[aN]at h;simp[iD,me Z u h.1,JH Z l h.2]
theorem uq(Z:Nat->Nat):(l:List (List U))->lX 0 l->vZ Z l=l
 |[],_=>rfl|c::l,h=>by simp only[lX]at h;simp[vZ,JH Z c h.1,uq Z l h.2]
end
section
variable{P:Program}{T:Tb}{aA r:List Oper}{o:Oper}{n:Nat}{l:List (Nat×U)}{O:Sg}{K:List U->Sg->Prop}
theorem lD{C:PG}{f:FuncId}{args:List U}{R:U->Sg->Prop}(hw:cP aA (fr n l) o=some true)(hc:jL T (fr n l) o.op=some (f,args))(kE:bA C.prog f args O R){d:Tmp}(he:o.dst=some d)(hd:Nat.blt d n=true)(hk:∀u O',R u O'->RU C T aA r (fr n ((d,u)::l)) O' K):RU C T aA (o::r) (fr n l) O K :=
 RU.call hw hc kE (fun u O' h=>by rw[he,wC (d:=some d) u hd];exact hk u O' h)
end
section
variable{Q:Exit->List U->Sg->Prop}{K:List U->Sg->Prop}{tm:List U}{O:Sg}{i j n0:Nat}{E:List U->Sg->Prop}
theorem q1(h:K tm O):CG K Q .normal tm O:=h
theorem q2(h:Q (.exit i) tm O):CG K Q (.exit i) tm O:=h
theorem q3(h:Q .ret tm O):CG K Q .ret tm O:=h
theorem q4(h:Q .normal tm O):yQ i Q .normal tm O:=h
theorem q5(h:Q .ret tm O):yQ i Q .ret tm O:=h
theorem q6(h:Q .normal tm O):yQ i Q (.exit i) tm O:=Pj h
theorem q7(mO:¬ j=i)(h:Q (.exit j) tm O):yQ i Q (.exit j) tm O:=Pi mO h
theorem q8(h:∃tm' O',E tm' O'/\n0<=O'.nx/\Gh n0 tm O tm' O'):OQ n0 E Q .normal tm O:=h
theorem q9(h:Q .ret tm O):OQ n0 E Q .ret tm O:=h
theorem q0(h:Q (.exit i) tm O):OQ n0 E Q (.exit i) tm O:=h
end
theorem U_:∀{h:List (Nat×B)}{k:Nat}{b:B},gt h k=some b->ug h k b=h
 |[],k,b,hg=>by cases hg
 |(j,c)::h,k,b,hg=>by simp only[gt,ug,beq_eq]at*;by_cases e:j=k;subst e;simp only[yC,zC,zA]at*;rw[hg];simp only[e,yB,zD]at*;rw[U_ hg]
variable{n:Nat}
theorem bP.trunc{m:Nm}{s:S}{w:World}(hf:gE m s w){i:Nat}{l:List Value}{e:Nat}(hl:lk s.h i=some (.inl (l,e,n+2)))(j:Nat):bP m s w m ⟨up s.h i (.inl (l.take j,e,n+2)),s.nx⟩ w:=by
 refine bP.write hf hl rfl (fun k hk=>rfl) rfl rfl rfl rfl (zF _) fun m' ha=>?_;obtain⟨pre,rest,h1,h2,h3⟩:=(hf m' ha).ok i _ hl;refine⟨pre,aI m' (l.drop j)++rest,?_,h2,?_⟩;rw[h1];congr 3;have:aI m' l=aI m' (l.take j)++aI m' (l.drop j):=by rw[<-wG,List.take_append_drop]
 rw[this];simp[zT];have e1:(aI m' (l.drop j)).length=l.length-j:=by rw[m4];simp
 rw[zU,e1,List.length_take];omega
theorem Gh.trunc{n0:Nat}{tm:List U}{O:Sg}{K:Nat}{l:List U}{e:TypeId}{sz st:Nat}(hg:gt O.h K=some (.vec l e sz st))(j:Nat):Gh n0 tm O tm ⟨ug O.h K (.vec (l.take j) e sz st),O.nx⟩:=fun F x tv hx hr hf he=>by
 subst hx;obtain⟨_,k1,k2,k3⟩:=hr.ok K _ hg;rcases k3 with⟨rfl,hJ⟩|⟨i,lv,h1,h2,h3⟩;rw[List.take_nil,U_ hg];exact⟨x,fun m w hf=>bP.refl hf,rfl,hr,hf,he,Ke.refl _ _⟩;have ho:=Ce hr (c:=.inl (lv.take j,e,sz+2)) (bK:=.vec (l.take j) e sz st) hg h1 h2 rfl (by rintro l e sz st h;cases h;exact⟨_,rfl⟩) fun y q1 q2 hm=>⟨LI k1 j,k2,.inr ⟨i,lv.take j,q1,q2,(hm.ke.E h3.bel h3).take j⟩⟩
 refine⟨_,fun m w hf=>bP.trunc hf h2 j,rfl,ho.h,ho.fr F hf,?_,?_⟩;exact he.mono ho.mo he.bel;exact fun u v hb hv=>aD.mono ho.mo u v (aD.bel u v hv) hv
variable{X:Type}
variable{n0:Nat}
variable{tm:List U}
variable{O:Sg}
variable{K:Nat}
variable{xs:List X}
variable{e:TypeId}
variable{sz:Nat}
theorem Gh.truncL(c:X->List U){st:Nat}(hc:∀x,(c x).length=sz)(hg:gt O.h K=some (.vec (xs.map c).flatten e sz st))(j:Nat):Gh n0 tm O tm ⟨ug O.h K (.vec ((xs.take j).map c).flatten e sz st),O.nx⟩:=by
 have:=Gh.trunc (n0:=n0) (tm:=tm) hg (j*sz)
 rwa [pj hc]at this
theorem Cr(p:Nat->Bool):∀(h:List (Nat×B))(k:Nat),gt (h.filter fun x=>p x.1) k=if p k then gt h k else none
 |[],k=>by simp[gt]
 |(j,b)::h,k=>by
  rw[List.filter_cons];cases hp:p j with
  |true=>simp only[if_true,lG,Cr p h k];by_cases e:j=k;subst e;simp[hp];simp[e]|false=>simp only[Bool.false_eq_true,if_false,Cr p h k,lG];by_cases e:j=k;subst e;simp[hp];simp[e]
theorem Ga(p:Nat->Bool):Gh n0 tm O tm ⟨O.h.filter fun x=>p x.1,O.nx⟩:=fun F x tv hx hr hf he=>by
 subst hx;have mo:∀n,Mo n x ⟨x.Y,⟨x.O.h.filter fun y=>p y.1,x.O.nx⟩,x.s⟩:=fun n=>⟨fun k _ h2=>⟨h2,fun b' cQ=>by simp only[Cr]at cQ;split at cQ;exact⟨b',cQ,zF _,fun _=>⟨rfl,fun l e sz st h=>⟨l,h⟩⟩⟩;cases cQ⟩,fun _ _ _ h=>h⟩;refine⟨⟨x.Y,⟨x.O.h.filter fun y=>p y.1,x.O.nx⟩,x.s⟩,fun m w hf=>bP.refl hf,rfl,⟨?_,?_,hr.bd⟩,?_,he.mono (mo _) he.bel,fun u v hb hv=>aD.mono (mo _) u v (aD.bel u v hv) hv⟩;intro k b hb;simp only[Cr]at hb;split at hb;obtain⟨h1,h2⟩:=hr.ok k b hb;exact⟨h1,h2.mono (mo _) rfl (fun i c _ h=>h)⟩;cases hb;intro k k' b b' i hb cQ h1 h2;simp only[Cr]at hb cQ;split at hb;split at cQ;exact hr.inj k k' b b' i hb cQ h1 h2;cases cQ;cases hb;intro i b J;obtain⟨h1,h2⟩:=hf i b J;refine⟨h1,fun k c hc=>?_⟩;simp only[Cr]at hc;split at hc;exact h2 k c hc;cases hc
def rW{X:Type}(l:List X)(off n:Nat)(i:Int):Option X:=if 0<=i/\i<(n:Int)then l[off+i.toNat]? else none
variable{off:Nat}
variable{i:Int}
variable{x:X}
theorem VE{l:List X}(h:rW l off n i=some x):0<=i/\i<(n:Int)/\l[off+i.toNat]? = some x:=by
 unfold rW at h;split at h;rename_i hi;exact⟨hi.1,hi.2,h⟩;cases h
section
variable{X:Type}{c:X->List U}{sz:Nat}(hc:∀x,(c x).length=sz)
include hc
theorem my{xs:List X}{j:Nat}{x:X}(h:xs[j]? = some x):jX (xs.map c).flatten (j*sz) sz=some (c x):=by
 have hj:=(zG.1 h).1;unfold jX;rw[JJ hc,Xr hc];have e:xs.drop j=x::xs.drop (j+1):=by rw[List.drop_eq_getElem_cons hj];congr;exact(zG.1 h).2
 rw[e,if_pos (by rw[<-Nat.succ_mul];exact Nat.mul_le_mul_right _ hj)];simp only[zQ,List.flatten_cons];have:=hc x;rw[<-this,List.take_left'];rfl
theorem uy{xs:List X}{j:Nat}(h:j<xs.length)(x:X):oM (xs.map c).flatten (j*sz) (c x)=some ((xs.set j x).map c).flatten:=by
 unfold oM;rw[JJ hc,hc,if_pos (by rw[<-Nat.succ_mul];exact Nat.mul_le_mul_right _ h),<-Nat.succ_mul,Xr hc,pj hc,List.set_eq_take_append_cons_drop,if_pos h];simp
end
section
variable{T:Tb}{O O':Sg}{n:Nat}{l:List (Nat×U)}{u v w:U}
theorem qxv{q:List U}{j:Nat}{u:U}(h:jX q j 1=some [u]):nth q j=some u:=by
 unfold jX at h;split at h;rename_i hj;simp only[zA]at h;rw[iQ];have:((q.drop j).take 1)[0]? = some u:=by rw[h];rfl
 simpa using this;cases h
variable{m:Nat}
theorem OR(c:X->List U){t e':TypeId}{st:Nat}{y:X}{o z:Operand}{cs:List U}{h':List (Nat×B)}(hs:cC T t=some sz)(hc:∀x,(c x).length=sz)(ho:bV n l o=some (.ptr K st (off*sz+i.toNat*sz)))(hz:bV n l z=some v)(u7:vJ v=some cs)(hk:okL cs=true)(hl:Nat.beq cs.length sz=true)(hy:pU cs=c y)(hv:gt O.h K=some (.vec (xs.map c).flatten e' sz st))(hx:rW xs off m i=some x)(B4:ug O.h K (.vec ((xs.set (off+i.toNat) y).map c).flatten e' sz st)=h'):bO T O (fr n l) (.store t o z)=some (.junk,⟨h',O.nx⟩):=by
 subst B4;have hb:Nat.beq st st=true:=by simp
 have hj:=(zG.1 (VE hx).2.2).1;have hp:=uy hc hj y;rw[Nat.add_mul]at hp;exact FA rfl rfl (by simp only[nO,eT ho,eT hz,US,hs,u7,hl,hk,zC,cellsOf,hv,hb,DX,hy,hp,JA])
theorem qB(h:aB xs i=some x):rW xs 0 xs.length i=some x:=by
 obtain⟨h1,h2,h3⟩:=Xf h;unfold rW;rw[if_pos ⟨h1,h2⟩,Nat.zero_add];exact h3
theorem J9(c:X->List U){t e':TypeId}{st a h q:Nat}{lo hi:Option Value}(hd:T.und t=some (.slice e))(hs:cC T e=some sz)(hc:∀x,(c x).length=sz)(hv:xJ O K st=some ((xs.map c).flatten,e',sz))(hm:off+m<=xs.length)(hb:g9 m m lo hi none=some (a,h,q)):OX T O t (.vl K st off m) lo hi none=some (.vl K st (off+a) (h-a)):=by
 have b:Nat.beq sz sz=true:=by simp[beq_eq]
 have hl:(off+m)*sz<=(xs.map c).flatten.length:=by rw[JJ hc];exact Nat.mul_le_mul_right _ hm
 simp only[OX,hd,hs,hv,b,zC,hb,hl,if_true]
theorem Vr(c:X->List U){st:Nat}(hc:∀x,(c x).length=sz)(hv:xJ O K st=some ((xs.map c).flatten,e,sz))(hm:off+m<=xs.length):uI O sz (.vl K st off m)=some (((xs.drop off).take m).length,(((xs.drop off).take m).map c).flatten):=by
 have b:Nat.beq sz sz=true:=by simp[beq_eq]
 have hl:off*sz+m*sz<=(xs.map c).flatten.length:=by rw[JJ hc,<-Nat.add_mul];exact Nat.mul_le_mul_right _ hm
 have e1:((xs.drop off).take m).length=m:=by simp;omega
 simp only[uI,hv,b,zC,jX,hl,if_true,Xr hc,pj hc,e1]
end
class Aq(a b:Nat):Prop where
 h:a<b
instance{b:Nat}:Aq 0 (b+1):=⟨Nat.succ_pos _⟩
instance{a b:Nat}[q:Aq a b]:Aq (a+1) (b+1):=⟨Nat.succ_lt_succ q.h⟩
class BF{X:Type}(c:X->List U):Prop where
 h:∀n x,aN n (c x)
instance(k:IntKind):BF (cI k):=⟨fun n x=>Wg n k x⟩
instance:BF cB:=⟨Ah⟩
instance:BF cS:=⟨H_⟩
instance{X:Type}(c:X->List U)[q:BF c]:BF (cL c):=⟨fun n x=>Ag n (q.h n) x⟩
class BU(n:Nat)(u:U):Prop where
 h:b7 n u
class fD(n:Nat)(l:List U):Prop where
 h:aN n l
instance(n:Nat):fD n []:=⟨by simp[aN]⟩
instance(n:Nat)(u:U)(l:List U)[a:BU n u][b:fD n l]:fD n (u::l):=⟨by simp only[aN];exact⟨a.h,b.h⟩⟩
instance{X:Type}(n:Nat)(c:X->List U)(l:List X)[q:BF c]:fD n (l.map c).flatten:=⟨EP n (q.h n) l⟩
instance(n:Nat)(b:Bool):BU n (.bool b):=⟨by simp[b7]⟩
instance(n:Nat)(k:IntKind)(z:Int):BU n (.int k z):=⟨by simp[b7]⟩
instance(n:Nat)(s:List UInt8):BU n (.str s):=⟨by simp[b7]⟩
instance(n:Nat):BU n .nils:=⟨by simp[b7]⟩
instance(n k st off:Nat)[q:Aq k n]:BU n (.ptr k st off):=⟨by simp only[b7];exact q.h⟩
instance(n k off m c:Nat)[q:Aq k n]:BU n (.sl k off m c):=⟨by simp only[b7];exact q.h⟩
instance(n k st off m:Nat)[q:Aq k n]:BU n (.vl k st off m):=⟨by simp only[b7];exact q.h⟩
instance(n k:Nat)[q:Aq k n]:BU n (.map k):=⟨by simp only[b7];exact q.h⟩
instance(n:Nat)(l:List U)[q:fD n l]:BU n (.iptr l):=⟨by simp only[b7];exact q.h⟩
instance(n:Nat)(l:List U)[q:fD n l]:BU n (.agg l):=⟨by simp only[b7];exact q.h⟩
instance(n:Nat)(l:List U)[q:fD n l]:BU n (.tup l):=⟨by simp only[b7];exact q.h⟩
instance(n:Nat)(f:Fn)(a b:List U)[p:fD n a][q:fD n b]:BU n (.fn f a b):=⟨by simp only[b7];exact⟨p.h,q.h⟩⟩
instance{X:Type}(n:Nat)(t:Bool)(c:X->List U)(l:List X)[q:BF c]:BU n (.isl t (l.map c)):=⟨by simp only[b7];exact yR c (q.h n) l⟩
instance(n:Nat)(t:Bool):BU n (.isl t []):=⟨by simp[b7,lX]⟩
class BS(n:Nat)(l:List (Nat×U)):Prop where
 h:BelS n l
instance(n:Nat):BS n []:=⟨by simp[BelS]⟩
instance(n i:Nat)(u:U)(l:List (Nat×U))[a:BU n u][b:BS n l]:BS n ((i,u)::l):=⟨by simp only[BelS];exact⟨a.h,b.h⟩⟩
class Fz{X:Type}(f:X->U):Prop where
 h:∀n x,b7 n (f x)
instance(k:IntKind):Fz (fun x:Int=>U.int k x):=⟨fun n x=>by simp[b7]⟩
class BB(n:Nat)(b:B):Prop where
 h:BelB n b
instance(n:Nat)(l:List U)(e:TypeId)[q:fD n l]:BB n (.row l e):=⟨by simp only[BelB];exact q.h⟩
instance(n:Nat)(l:List U)(e:TypeId)(sz st:Nat)[q:fD n l]:BB n (.vec l e sz st):=⟨by simp only[BelB];exact q.h⟩
class BH(n:Nat)(h:List (Nat×B)):Prop where
 h:E9 n h
instance(n:Nat):BH n []:=⟨by simp[E9]⟩
instance(n k:Nat)(b:B)(h:List (Nat×B))[p:BB n b][q:BH n h]:BH n ((k,b)::h):=⟨by simp only[E9];exact⟨p.h,q.h⟩⟩
theorem Gh.toC{n1:Nat}{l l':List (Nat×U)}{h':List (Nat×B)}(ht:F7 l l')(hs:Vx.cut n1 O.h=h')(h1:n0<=n1)(h2:n1<=O.nx)[hb:BS n1 l'][hh:BH n1 h']:Gh n0 (fr n l) O (fr n l') ⟨h',n1⟩:=Gh.toS ht (by rw[hs]) h1 h2 hb.h hh.h
theorem vS(u:U)(ht:tm=[u])[q:BU 0 u]:Gh 0 tm O [u] ⟨[],0⟩:=by
 subst ht;refine Gh.to (n1:=0) [] rfl ?_ (zF _) (Nat.zero_le _) (by simp only[aN];exact⟨q.h,trivial⟩) (by simp[E9]);have:∀h:List (Nat×B),Vx.cut 0 h=[]:=by
  intro h;induction h with
  |nil=>rfl|cons x h ih=>obtain⟨k,b⟩:=x;simp only[Vx.cut,ih];rfl
 rw[this]
variable{P:Program}
variable{f:FuncId}
theorem vd{args:List U}{u:U}(h:bA P f args ⟨[],0⟩ (fun u' _=>u'=u/\b7 0 u'))[q:fD 0 args](O:Sg):bA P f args O (fun u' O'=>u'=u/\O'=O):=bA.pure1 h q.h O
theorem IK{args args':List U}{u:U}(h:pS args args')(kE:∀s,bA P f args' s (fun u' O'=>u'=u/\O'=s))(O:Sg):bA P f args O (fun u' O'=>u'=u/\O'=O):=bA.ghost (Gh.wk h) (zF _) (kE O)
class Stp(A:Prop)(B:outParam Prop):Prop where
 h:B->A
section
variable{Q:Exit->List U->Sg->Prop}{K:List U->Sg->Prop}{tm:List U}{O:Sg}{i j n0:Nat}{E:List U->Sg->Prop}
instance:Stp (CG K Q .normal tm O) (K tm O):=⟨q1⟩
instance:Stp (CG K Q (.exit i) tm O) (Q (.exit i) tm O):=⟨q2⟩
instance:Stp (CG K Q .ret tm O) (Q .ret tm O):=⟨q3⟩
instance:Stp (yQ i Q .normal tm O) (Q .normal tm O):=⟨q4⟩
instance:Stp (yQ i Q .ret tm O) (Q .ret tm O):=⟨q5⟩
instance:Stp (yQ i Q (.exit i) tm O) (Q .normal tm O):=⟨q6⟩
instance:Stp (OQ n0 E Q .normal tm O) (∃tm' O',E tm' O'/\n0<=O'.nx/\Gh n0 tm O tm' O'):=⟨q8⟩
instance:Stp (OQ n0 E Q .ret tm O) (Q .ret tm O):=⟨q9⟩
end
variable{C:PG}
theorem sq{Q:Exit->List U->Sg->Prop}{p q:Code}(h:WPU C n0 p tm O (CG (fun tm O=>WPU C n0 q tm O Q) Q)):WPU C n0 (.seq p q) tm O Q:=WPU.seq h
section
variable{P:Program}{T:Tb}{aA r:List Oper}{n:Nat}{l:List (Nat×U)}{O:Sg}{K:List U->Sg->Prop}{u:U}
theorem RS.mv{o:Oper}{x:Operand}(hw:cP aA (fr n l) o=some true)(ho:o.op=.move x)(hx:bV n l x=some u){d:Tmp}(he:o.dst=some d)(hk:RU C T aA r (fr n ((d,u)::l)) O K)(hd:Nat.blt d n=true:=by rfl):RU C T aA (o::r) (fr n l) O K:=RS.op hw (by rw[ho];exact g8 hx) he hd hk
theorem RS.as{o:Oper}{x:Operand}(hw:cP aA (fr n l) o=some true)(ho:o.op=.assign x)(hx:bV n l x=some u){d:Tmp}(he:o.dst=some d)(hk:RU C T aA r (fr n ((d,u)::l)) O K)(hd:Nat.blt d n=true:=by rfl):RU C T aA (o::r) (fr n l) O K:=RS.op hw (by rw[ho];exact qst hx) he hd hk
end
section
variable{P:Program}{T:Tb}{aA r:List Oper}{o:Oper}{n:Nat}{l:List (Nat×U)}{O:Sg}{aY:List RK}{K:List RK->List U->Sg->Prop}{u:U}
theorem RD.mv{x:Operand}(hw:cP aA (fr n l) o=some true)(ho:o.op=.move x)(hx:bV n l x=some u){d:Tmp}(he:o.dst=some d)(hk:RH P T aA r (fr n ((d,u)::l)) O ((1,⟨fr n l,o,u,false,false,O,O⟩)::aY) K)(hd:Nat.blt d n=true:=by rfl):RH P T aA (o::r) (fr n l) O aY K:=RD.look hw (by rw[ho];exact g8 hx) he hd hk
end
class NeN(a b:Nat):Prop where
 h:¬ a=b
theorem gq{A B:Prop}[s:Stp A B](h:B):A:=s.h h
def CT(T:Tb):List Field->Option (List (Nat×Nat))
 |[]=>some []|f::fs=>match cC T f.type,CT T fs with
  |some n,some l=>some ((f.offset,n)::l)|_,_=>none
theorem o?{T:Tb}:∀{fs:List Field}{pl:List (Nat×Nat)},CT T fs=some pl->G1 T fs=true/\∀i,JE T fs i=nth pl i
 |[],pl,h=>by simp[CT]at h;subst h;exact⟨rfl,fun i=>rfl⟩
 |f::fs,pl,h=>by
  simp only[CT]at h;rcases h1:cC T f.type with _|n;simp[h1]at h;rcases h2:CT T fs with _|l;simp[h1,h2]at h;simp only[h1,h2,zA]at h;subst h;obtain⟨g1,g2⟩:=o? h2;refine⟨by simp[G1,h1,g1],fun i=>?_⟩;cases i with
  |zero=>simp[JE,nth,h1]|succ i=>exact g2 i
structure rg(T:Tb)(t:TypeId)(zu:List U)(pl:List (Nat×Nat)):Prop where
 bd:∀{qs:List (Nat×U)}{cs:List U},tV (nth pl) zu qs=some cs->okL cs=true->Bt T t qs=some (.agg cs)
variable{t:TypeId}
variable{zu:List U}
theorem y9{T:Tb}{fs:Array Field}{a b:Nat}{z:Value}{pl:List (Nat×Nat)}(hd:T.und t=some (.struct fs))(hi:T.inf t=some (a,b,z))(hz:pH z.cells.toList=some zu)(hp:CT T fs.toList=some pl):rg T t zu pl:=⟨fun{qs cs} hf hk=>by
 obtain⟨g1,g2⟩:=o? hp;have:JE T fs.toList=nth pl:=funext g2;simp only[Bt,hi,hz,hd,g1,zC,this,hf,hk]⟩
section
variable{T:Tb}{O O':Sg}{n:Nat}{l:List (Nat×U)}{u v w:U}
variable{cs:List U}
theorem Vt{pl:List (Nat×Nat)}{ps:Array (Nat×Operand)}{qs:List (Nat×U)}(h:rg T t zu pl)(he:IP n l ps.toList=some qs)(hf:tV (nth pl) zu qs=some cs)(hk:okL cs=true):bO T O (fr n l) (.build t ps)=some (.agg cs,O):=Js he (h.bd hf hk)
theorem xO{k b:Nat}{z:Value}{ps:Array (Nat×Operand)}{qs:List (Nat×U)}(hd:T.und t=some (.slice e))(hi:T.inf e=some (sz,b,z))(h:IP n l ps.toList=some qs)(h1:Nat.ble (k*sz) 16777216=true)(h2:Nat.ble k 16777216=true)(h3:Nat.beq z.cells.toList.length sz=true)(hz:pH z.cells.toList=some zu)(hf:tV (fun i=>some (i*sz,sz)) (uK zu k) qs=some cs)(hk:okL cs=true):bO T O (fr n l) (.buildSlice t k ps)=some (.sl O.nx 0 k k,newU O (.row cs e)):=v03 h (by simp only[Kk,hd,hi,h1,h2,h3,zC,hz,hf,hk])
variable{a:Int}
variable{k':IntKind}
theorem o_(k:IntKind){b:Int}(h:¬ b<0):jI .shr k a k' b=some (.int k (a.fdiv (2^(min b.toNat k.bits)))):=by simp[jI,h]
theorem XF(k:IntKind){b:Int}(h:¬ b<0):jI .shl k a k' b=some (.int k (k.wrap (a*2^(min b.toNat k.bits)))):=by simp[jI,h]
theorem ya(c:X->List U)(z:X){x y:Operand}{k:IntKind}{by_:Nat}{zv:Value}(hx:bV n l x=some (.int k a))(hy:bV n l y=some (.int k' a))(hd:T.und t=some (.slice e))(hi:T.inf e=some (sz,by_,zv))(hz:pH zv.cells.toList=some zu)(hk:okL zu=true)(xq:pU zu=c z)(hl:Nat.beq zv.cells.toList.length sz=true)(hr:0<=a/\by_*a.toNat<=281474976710656/\a<=281474976710656):bO T O (fr n l) (.makeSlice t x y)=some (.sl O.nx 0 a.toNat a.toNat,newU O (.row ((List.replicate a.toNat z).map c).flatten e)):=by
 have ti:uK (c z) a.toNat=((List.replicate a.toNat z).map c).flatten:=by simp[uK]
 refine Od hx hy ?_;simp only[Gd,hd,hi,hz,hk,hl,zC,hr.1,hr.2.1,hr.2.2,Int.le_refl,and_self,if_true,xq,ti]
variable{m:Nat}
theorem UO{q:Nat}{k:IntKind}(hd:T.und t=some (.slice e))(hs:cC T e=some sz)(hv:c7 O K 0=true)(hx:rW xs 0 m i=some x):EM T O t (.sl K 0 m q) (.int k i)=some (.ptr K 0 (0*sz+i.toNat*sz)):=by
 obtain⟨h1,h2,_⟩:=VE hx;simp only[EM,hd,hs,hv,zC,h1,h2,and_self,if_true,Nat.zero_mul]
theorem lf(c:X->List U){e':TypeId}{d:TypeDesc}{o:Operand}(f:X->U)(hd:T.und t=some d)(ha:qA d=false)(hc:∀x,c x=[f x])(ho:bV n l o=some (.ptr K 0 (0*1+i.toNat*1)))(hv:gt O.h K=some (.row (xs.map c).flatten e'))(hx:rW xs 0 m i=some x):bO T O (fr n l) (.load t o)=some (f x,O):=by
 refine KH rfl ?_;have hb:Nat.beq 0 0=true:=rfl;have hg:=my (c:=c) (sz:=1) (fun x=>by rw[hc];rfl) (VE hx).2.2;rw[hc,Nat.add_mul]at hg;simp only[pL,eT ho,cellsOf,hv,hb,zC,EB,hd,ha,zD,qxv hg]
theorem Uu(c:X->List U){e':TypeId}{y:X}{o z:Operand}{h':List (Nat×B)}(hs:cC T t=some sz)(hc:∀x,(c x).length=sz)(ho:bV n l o=some (.ptr K 0 (0*sz+i.toNat*sz)))(hz:bV n l z=some v)(u7:vJ v=some cs)(hk:okL cs=true)(hy:cs=c y)(hv:gt O.h K=some (.row (xs.map c).flatten e'))(hx:rW xs 0 m i=some x)(B4:ug O.h K (.row ((xs.set i.toNat y).map c).flatten e')=h'):bO T O (fr n l) (.store t o z)=some (.junk,⟨h',O.nx⟩):=by
 subst hy;subst B4;have hb:Nat.beq 0 0=true:=rfl;have sH:Nat.beq (c y).length sz=true:=by simp[hc]
 have hj:=(zG.1 (VE hx).2.2).1;have hp:=uy hc hj y;rw[Nat.add_mul,Nat.zero_add]at hp;exact FA rfl rfl (by simp only[nO,eT ho,eT hz,US,hs,u7,sH,hk,zC,cellsOf,hv,hb,DX,hp,JA])
theorem m_{q:Nat}(hd:T.und t=some (.slice e))(h:c7 O K 0=true):lenU T O t (.sl K off m q)=some (.int .i64 m):=by
 simp only[lenU,hd,h,zC]
theorem Uy{c:X->List U}(hc:∀x,(c x).length=sz)(h:m=xs.length)(K:Nat)(e:TypeId):fz K (.row (xs.map c).flatten e) sz (.sl K 0 m m)=.isl false (xs.map c):=by
 subst h;have hl:0+xs.length*sz<=(xs.map c).flatten.length:=by rw[JJ hc];omega
 have hk:Nat.beq K K=true:=by simp
 simp only[fz,hk,zC,hl,if_true,List.drop_zero,qmp hc]
end
theorem bA.own1(c:X->List U){ys:List X}{a7:List U}[hc:BF c][ha:fD 0 a7]{k:Nat}
  (h:bA P f a7 ⟨[],0⟩ (fun u O'=>∃t',u=.vl k t' 0 ys.length/\O'=⟨[(k,.vec (ys.map c).flatten e sz t')],k+1⟩))
  (O:Sg) (K:Nat) (hK:O.nx+k=K):
  bA P f a7 O (fun u O'=>∃t',u=.vl K t' 0 ys.length/\O'=⟨(K,.vec (ys.map c).flatten e sz t')::O.h,K+1⟩):=by
 subst hK;have DA:∀l:List X,aN 0 (l.map c).flatten:=fun l=>EP 0 (hc.h 0) l;have h1:=bA.frame [] h O (by simp) (by simp) ha.h (by intro k b hb;simp[gt]at hb);rw[JH _ _ ha.h]at h1;refine bA.post h1 ?_;rintro u O1 ⟨u0,O6,⟨t',rfl,rfl⟩,_,rfl,rfl⟩;refine⟨.vl (O.nx+k) t' 0 ys.length,⟨(O.nx+k,.vec (ys.map c).flatten e sz t')::O.h,O.nx+k+1⟩,by simp;omega,?_,t',rfl,rfl⟩;have hs:Sk [] O ⟨[(k,.vec (ys.map c).flatten e sz t')],k+1⟩=⟨(O.nx+k,.vec (ys.map c).flatten e sz t')::FZ [] O.h,O.nx+k+1⟩:=by simp[Sk,xG,nm,rB,JH _ _ (DA ys)];omega
 rw[hs];have:=Gh.same (n0:=O.nx) (tm:=[rU (nm [] O.nx) (.vl k t' 0 ys.length)]) (O:=⟨(O.nx+k,.vec (ys.map c).flatten e sz t')::FZ [] O.h,O.nx+k+1⟩) ((O.nx+k,.vec (ys.map c).flatten e sz t')::O.h) (fun j=>by rw[lG,lG,Jx];by_cases hk:O.nx+k=j<;>simp[hk]);exact this
theorem Gh.rowW{q q':List U}(hg:gt O.h K=some (.row q e))(hk:okL q'=true)(h:pS q q'):Gh n0 tm O tm ⟨ug O.h K (.row q' e),O.nx⟩:=Gh.row hg hk fun x vs _ _ he=>⟨h.rel he.1,by rw[h.len];exact he.2⟩
def bothL{X H:Type}:List H->(Bool->Option (List X))->Option (List X)
 |[],F=>match F true,F false with
  |some [],some []=>some []|_,_=>none
 |_::_,F=>F false
theorem qxf{H:Type}{l:List H}{F:Bool->Option (List X)}{r:List X}(h:bothL l F=some r)(z:Bool)(hz:z=true->l=[]):F z=some r:=by
 cases l with|nil=>simp only[bothL]at h;split at h;rename_i h1 h2;cases z;rw[h2];exact h;rw[h1];exact h;cases h|cons a l=>rcases z with _|_;exact h;have:=hz rfl;cases this
end Go.Vx
namespace Go.Vx
open Go Go.Rx
structure jB(K V:Type) where
 es:List (K×V×Nat)
 cl:Nat
def xP{K V:Type}(eq:K->K->Bool)(k:K):List (K×V×Nat)->Nat->Option (Nat×V×Nat)
 |[],_=>none|e::es,i=>cond (eq k e.1) (some (i,e.2.1,e.2.2)) (xP eq k es (i+1))
def xK{K V:Type}(v:V):List (K×V×Nat)->Nat->List (K×V×Nat)
 |[],_=>[]|e::es,0=>(e.1,v,e.2.2)::es
 |e::es,i+1=>e::xK v es i
def E7{K V:Type}:jB K V:=⟨[],0⟩
def FE{K V:Type}(eq:K->K->Bool)(m:jB K V)(k:K):Option V:=(xP eq k m.es 0).map fun x=>x.2.1
def AP{K V:Type}(eq:K->K->Bool)(m:jB K V)(k:K)(v:V):jB K V:=match xP eq k m.es 0 with
 |none=>⟨m.es++[(k,v,m.cl)],m.cl+1⟩|some (i,_)=>⟨xK v m.es i,m.cl⟩
section
variable{K V:Type}(kU:K->U)(vU:V->U)
def mE(e:K×V×Nat):ME:=⟨kU e.1,vU e.2.1,e.2.2⟩
theorem u?(v:V):∀(es:List (K×V×Nat))(i:Nat),FD (es.map (mE kU vU)) i (fun e=>{ e with val:=vU v })=(xK v es i).map (mE kU vU)
 |[],i=>by cases i<;>simp[FD,xK]
 |e::es,0=>by simp[FD,xK,mE]
 |e::es,i+1=>by simp[FD,xK,u? v es i]
structure SQ(T:Tb)(kt:TypeId)(eq:K->K->Bool)(kV:K->Value):Prop where
 v:∀k,toV (kU k)=some (kV k)
 cmp:∀a b,eqv T 50 kt (kV a) (kV b)=some (eq a b)
 key:∀k,o6 T 50 kt (kV k)=true
 pl:∀k,plain (kV k)=true
 same:∀a b,eq a b=true->xF 50 (kV b) (kV a)=true
variable{kU vU}{T:Tb}{kt:TypeId}{eq:K->K->Bool}{kV:K->Value}(hk:SQ kU T kt eq kV)
include hk
theorem uz(k:K):∀(es:List (K×V×Nat))(i:Nat),yN T kt (kV k) (es.map (mE kU vU)) i=some ((xP eq k es i).map fun x=>(x.1,vU x.2.1))
 |[],i=>rfl|e::es,i=>by simp only[zQ,yN,mE,hk.v,hk.cmp,xP];rcases h:eq k e.1 with _|_;exact uz k es (i+1);simp
omit hk in
theorem R?(k:K):∀{es:List (K×V×Nat)}{i j:Nat}{v:V}{b:Nat},xP eq k es i=some (j,v,b)->i<=j/\∃k',es[j-i]? = some (k',v,b)/\eq k k'=true
 |[],i,j,v,b,h=>by simp[xP]at h
 |e::es,i,j,v,b,h=>by
  simp only[xP]at h;cases he:eq k e.1 with
  |true=>rw[he]at h;simp only[zC,zA,zB]at h;obtain⟨rfl,rfl,rfl⟩:=h;exact⟨zF _,e.1,by simp,he⟩
  |false=>rw[he]at h;simp only[zD]at h;obtain⟨h1,k',h2,h3⟩:=R? k h;refine⟨by omega,k',?_,h3⟩;rw[show j-i=(j-(i+1))+1 by omega];simpa using h2
variable{O:Sg}{n:Nat}{l:List (Nat×U)}{r:Nat}{m:jB K V}{t et:TypeId}(hd:T.und t=some (.map kt et))(hg:gt O.h r=some (.map (m.es.map (mE kU vU)) m.cl))
include hd hg
theorem z48{x k0:Operand}{k:K}{a b:Nat}{z:Value}{zv:V}(hx:bV n l x=some (.map r))(MZ:bV n l k0=some (kU k))(hi:T.inf et=some (a,b,z))(hz:iH z=some (vU zv)):bO T O (fr n l) (.lookup t x k0 true)=some (.tup [vU ((FE eq m k).getD zv),.bool (FE eq m k).isSome],O):=by
 refine KH rfl ?_;simp only[pL,hd,eT hx,eT MZ,hk.v,hk.key,zC,hg,uz hk,FE];rcases xP eq k m.es 0 with _|q;simp only[Option.map_none,hi,hz,Option.getD_none,Option.isSome];simp only[zM,Option.getD_some,Option.isSome]
omit hd hg in
theorem XD{k:K}{j b:Nat}{v:V}(hf:xP eq k m.es 0=some (j,v,b)):∃k',nth (m.es.map (mE kU vU)) j=some ⟨kU k',vU v,b⟩/\xF 50 (kV k') (kV k)=true:=by
 obtain⟨_,k',h1,h2⟩:=R? k hf;refine⟨k',?_,hk.same k k' h2⟩;rw[iQ,List.getElem?_map];rw[Nat.sub_zero]at h1;rw[h1];rfl
theorem WT{x k0 v0:Operand}{k:K}{v:V}(hx:bV n l x=some (.map r))(MZ:bV n l k0=some (kU k))(hv0:bV n l v0=some (vU v)){O':Sg}(B4:LF O r ((AP eq m k v).es.map (mE kU vU)) (AP eq m k v).cl=O'):bO T O (fr n l) (.mapUpdate t x k0 v0)=some (.junk,O'):=by
 subst B4;refine FA rfl rfl ?_;simp only[nO,eT hx,eT MZ,eT hv0,Ip,hd,hk.v,hk.key,hk.pl,zC,hg,uz hk,AP];rcases hf:xP eq k m.es 0 with _|q;simp only[Option.map_none,List.map_append,zQ,List.map_nil,mE];obtain⟨j,v',b⟩:=q;obtain⟨k',h1,h2⟩:=XD (vU:=vU) hk hf;simp only[zM,h1,hk.v,h2,zC,u?]
end
theorem z7e{T:Tb}{O:Sg}{n:Nat}{l:List (Nat×U)}{t:TypeId}:bO T O (fr n l) (.makeMap t none)=some (.map O.nx,newU O (.map [] 0)):=FA rfl rfl rfl
theorem Af{K V:Type}{kU:K->U}{vU:V->U}{n:Nat}(hk:∀k,b7 n (kU k))(hv:∀v,b7 n (vU v))(es:List (K×V×Nat)):∀e∈es.map (mE kU vU),b7 n e.key/\b7 n e.val:=by
 intro e he;obtain⟨x,_,rfl⟩:=List.mem_map.1 he;exact⟨hk _,hv _⟩
theorem D?{T:Tb}{t:TypeId}{k:IntKind}(hd:T.und t=some (.int k)):SQ (fun x=>.int k x) T t (fun a b=>a==b) (fun x=>.int k x) where
 v:=fun _=>rfl
 cmp:=fun a b=>by simp[eqv,hd]
 key:=fun _=>by simp[o6,hd]
 pl:=fun _=>rfl
 same:=fun a b h=>by simp at h;simp[xF,h]
instance{K V:Type}(n:Nat)(kU:K->U)(vU:V->U)(es:List (K×V×Nat))(cl:Nat)[p:Fz kU][q:Fz vU]:BB n (.map (es.map (mE kU vU)) cl):=⟨by simp only[BelB];exact Af (p.h n) (q.h n) es⟩
def stF:List Nat->Nat->Nat
 |[],_=>0|a::_,0=>a
 |_::l,i+1=>stF l i
def xj:List Nat->Nat->Bool
 |[],_=>true|a::l,nx=>cond (IM l a) false (cond (Nat.blt a nx) (xj l nx) false)
theorem q?:∀{l:List Nat}{nx:Nat},xj l nx=true->l.Nodup/\∀k∈l,k<nx
 |[],nx,_=>⟨List.nodup_nil,fun k h=>by cases h⟩|a::l,nx,h=>by
  simp only[xj]at h;cases h1:IM l a with
  |true=>rw[h1]at h;cases h|false=>rw[h1,zD]at h;rcases h2:Nat.blt a nx with _|_;rw[h2]at h;cases h;rw[h2,zC]at h;obtain⟨q1,q2⟩:=q? h;refine⟨List.nodup_cons.2 ⟨fun hm=>?_,q1⟩,fun k hk=>?_⟩;rw[(Xg l a).2 hm]at h1;cases h1;rcases zI.1 hk with rfl |hk;exact zY h2;exact q2 k hk
def Vw(N:Nat):List (Nat×B)->Bool
 |[]=>true|(k,_)::h=>cond (Nat.blt k N) (Vw N h) false
def IH(ns:List Nat)(nx:Nat)(h:List (Nat×B)):List (Nat×B)->Prop
 |[]=>True|(k,b)::r=>gt h (nm ns nx k)=some (rB (nm ns nx) b)/\IH ns nx h r
theorem ru{ns:List Nat}{nx N:Nat}{h:List (Nat×B)}:∀{h0:List (Nat×B)},IH ns nx h h0->Vw N h0=true->E9 N h0->∀k b,gt h0 k=some b->k<N/\BelB N b/\gt h (nm ns nx k)=some (rB (nm ns nx) b)
 |[],_,_,_,k,b,hg=>by cases hg
 |(j,c)::h0,hh,hk,hb,k,b,hg=>by simp only[IH]at hh;simp only[Vw]at hk;rcases h2:Nat.blt j N with _|_;rw[h2]at hk;cases hk;rw[h2,zC]at hk;simp only[E9]at hb;simp only[gt,beq_eq]at hg;by_cases e:j=k;subst e;simp only[yC,zC,zA]at hg;subst hg;exact⟨zY h2,hb.1,hh.1⟩;simp only[e,yB,zD]at hg;exact ru hh.2 hk hb.2 k b hg
theorem Bm(Z:Nat->Nat)(l:List U)[q:fD 0 l]:iD Z l=l:=JH Z l q.h
theorem PB{X:Type}(Z:Nat->Nat)(c:X->List U)(l:List X)[q:BF c]:vZ Z (l.map c)=l.map c:=uq Z _ (yR c (q.h 0) l)
theorem Vs{K V:Type}(Z:Nat->Nat)(kU:K->U)(vU:V->U)(es:List (K×V×Nat))[p:Fz kU][q:Fz vU]:(es.map (mE kU vU)).map (rM Z)=es.map (mE kU vU):=by
 rw[List.map_map];refine List.map_congr_left fun e _=>?_;simp only[Function.comp,mE,rM,me Z _ (p.h 0 _),me Z _ (q.h 0 _)]
def IN(ns:List Nat)(nx N:Nat)(h:List (Nat×B)):List (Nat×B)->List (Nat×B)
 |[]=>h|(k,b)::r=>cond (Nat.blt k N) (ug (IN ns nx N h r) (nm ns nx k) (rB (nm ns nx) b)) ((nm ns nx k,rB (nm ns nx) b)::IN ns nx N h r)
def NY(N:Nat)(h:List (Nat×B)):Bool:=(List.range N).all fun k=>(gt h k).isSome
theorem G?{ns:List Nat}{nx N:Nat}{h:List (Nat×B)}(hl:ns.length=N)(hi:∀i j,nm ns nx i=nm ns nx j->i=j)(B7:∀k,k<N->(gt h (nm ns nx k)).isSome=true)(gY:∀k,N<=k->gt h (nm ns nx k)=none):∀(r:List (Nat×B))(k:Nat),gt (IN ns nx N h r) k=match gt (xG ns nx r) k with
  |some b=>some b|none=>gt h k
 |[],k=>by simp[IN,xG,gt]
 |(j,b)::r,k=>by
  have ih:=G? hl hi B7 gY r;simp only[IN,xG,lG];cases hj:Nat.blt j N with
  |true=>
   have hjN:j<N:=zY hj;simp only[zC,OU];by_cases e:nm ns nx j=k;subst e;have hs:=B7 j hjN;have:(gt (IN ns nx N h r) (nm ns nx j)).isSome=true:=by rw[ih];split<;>simp_all
   rcases hg:gt (IN ns nx N h r) (nm ns nx j)with _|c;rw[hg]at this;cases this;simp;simp[e,ih]
  |false=>simp only[zD,lG];by_cases e:nm ns nx j=k;simp[e];simp[e,ih]
theorem bA.st{P:Program}{f:FuncId}{args0 args:List U}{h0:List (Nat×B)}{N N1:Nat}{U0 U1:(Nat->Nat)->U}{h1:(Nat->Nat)->List (Nat×B)}{S1:(Nat->Nat)->Sg}(ns:List Nat){O:Sg}
  (h:bA P f args0 ⟨h0,N⟩ (fun u O'=>∃t:Nat->Nat,u=U0 t/\O'=⟨h1 t,N1⟩)) [ha:fD N args0] [hb:BH N h0]
  (hn:xj ns O.nx=true:=by rfl) (hN:ns.length=N:=by rfl) (hk:Vw N h0=true:=by rfl) (A6:NY N h0=true:=by rfl) (fu:∀t,NY N (h1 t)=true:=by intro t;rfl)
  (hh:IH ns O.nx O.h h0:=by simp only[IH,gt,Nat.beq,zC,zD,nm,rB,Bm,iD,rU,PB,Vs,and_true,true_and]<;>first |rfl |exact⟨rfl,trivial⟩|exact⟨rfl,rfl,trivial⟩|exact⟨rfl,rfl⟩)
  (d9:iD (nm ns O.nx) args0=args:=by(simp only[nm,Bm,iD,rU,PB])<;>rfl)
  (hU:∀t,rU (nm ns O.nx) (U0 t)=U1 t:=by(intro t;simp only[nm,Bm,iD,rU,PB])<;>rfl)
  (hS:∀t,(⟨IN ns O.nx N O.h (h1 t),O.nx+(N1-N)⟩:Sg)=S1 t:=by(intro t;simp only[IN,Nat.blt,Nat.ble,Nat.sub_self,Nat.add_zero,Nat.reduceAdd,Nat.reduceSub,ug,Nat.beq,zC,zD,nm,rB,Bm,iD,rU,PB,Vs])<;>rfl):
  bA P f args O (fun u O'=>∃t:Nat->Nat,u=U1 t/\O'=S1 t):=by
 subst hN;obtain⟨g1,g2⟩:=q? hn;have nE:=ru hh hk hb.h;have hi:∀i j,nm ns O.nx i=nm ns O.nx j->i=j:=fun i j h=>h_ g1 g2 h;have hA:∀{h:List (Nat×B)},NY ns.length h=true->∀k,k<ns.length->(gt h k).isSome=true:=fun{h} he k hk=>by unfold NY at he;rw[List.all_eq_true]at he;exact he k (List.mem_range.2 hk)
 have B7:∀k,k<ns.length->(gt O.h (nm ns O.nx k)).isSome=true:=fun k hk=>by have:=hA A6 k hk;rcases hg:gt h0 k with _|b;rw[hg]at this;cases this;rw[(nE k b hg).2.2];rfl
 intro F x vs m w bH hx hh' m9 he fH uV;have gY:∀k,ns.length<=k->gt O.h (nm ns O.nx k)=none:=fun k hk=>by rcases hg:gt O.h (nm ns O.nx k)with _|b;rfl;have h2:=(hh'.ok (nm ns O.nx k) b (by rw[hx];exact hg)).1;rw[hx,JB ns O.nx k hk]at h2;omega
 have h3:=bA.frame ns h O g1 g2 ha.h nE;rw[d9]at h3;have h4:bA P f args O (fun u O'=>∃t:Nat->Nat,u=U1 t/\O'=S1 t):=bA.post h3 ?_;exact h4 F x vs m w bH hx hh' m9 he fH uV;rintro u O' ⟨u0,O6,⟨t,rfl,rfl⟩,sG,rfl,rfl⟩;refine⟨U1 t,S1 t,?_,?_,t,rfl,rfl⟩;rw[<-hS t];exact Nat.le_add_right _ _;rw[<-hS t,<-hU t];refine Gh.same (n0:=O.nx) (tm:=[rU (nm ns O.nx) (U0 t)]) (O:=Sk ns O ⟨h1 t,N1⟩) (IN ns O.nx ns.length O.h (h1 t)) (fun k=>?_);show _=gt (xG ns O.nx (h1 t)++FZ ns O.h) k;rw[G? rfl hi B7 gY,ph,Jx];cases hg:gt (xG ns O.nx (h1 t)) k with
 |some b=>rfl|none=>by_cases hkn:k∈ns;exfalso;obtain⟨j,hj,e⟩:=List.getElem_of_mem hkn;obtain⟨_,e2⟩:=FW ns O.nx j hj;rw[e]at e2;rw[<-e2,mw hi]at hg;have:=hA (fu t) j hj;rcases K5:gt (h1 t) j with _|c;rw[K5]at this;cases this;rw[K5]at hg;cases hg;rw[if_neg hkn]
end Go.Vx
