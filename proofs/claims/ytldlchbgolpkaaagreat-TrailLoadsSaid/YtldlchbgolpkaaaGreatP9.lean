import Derived.DataReads
import Derived.ChangeArms
import Derived.OpenShut
import Derived.ChangeSame
import Derived.Test.YtldlchbgolpkaaaGreatP8
set_option linter.all false
namespace Go.Vx
open Go Go.Rx
def z0h{v11 I:Type}{f:v11->M I}:∀{l:V v11}{r:V I},l.mapM f=some r->r.length=l.length/\∀(i:Nat)(a:v11),l[i]? = some a->∃b,r[i]? = some b/\f a=some b
 |[],r,h=>by simp at h;subst h;simp
 |a::l,r,h=>by
  simp[List.mapM_cons,bind,Option.bind]at h;rcases h1:f a with _|b;simp[h1]at h;simp[h1]at h;rcases h2:l.mapM f with _|r';simp[h2]at h;simp[h2,pure]at h;subst h;have⟨g1,g2⟩:=z0h h2;refine⟨by simp[g1],fun i x hx=>?_⟩;cases i with
  |zero=>simp at hx;subst hx;exact⟨b,rfl,h1⟩|succ i=>simp at hx;simpa using g2 i x hx
def xg(W:PL):∀(l:V U)(vs:V O),o3 W l vs↔∀(i:Nat)(u:U),l[i]? = some u->∃v,vs[i]? = some v/\Rep W u v
 |[],vs=>by simp[o3]
 |u::us,[]=>by simp only[o3,false_iff];intro h;have⟨v,hv,_⟩:=h 0 u rfl;simp at hv
 |u::us,v::vs=>by
  simp[o3,xg W us vs];constructor;rintro⟨h1,h2⟩ i w hi;cases i with
  |zero=>simp at hi;subst hi;exact⟨v,rfl,h1⟩|succ i=>simp at hi;simpa using h2 i w hi
  intro h;refine⟨?_,fun i w hi=>by simpa using h (i+1) w (by simpa using hi)⟩;have⟨v',h1,h2⟩:=h 0 u rfl;simp at h1;subst h1;exact h2
def z7d{W:PL}{sz:Nat}:∀{l:V (V U)}{vs:V O},(∀(i:Nat)(c:V U),l[i]? = some c->c.length=sz/\okL c=true/\o3 W c (vs.drop (i*sz)))->N6 W sz l vs
 |[],vs,h=>by simp[N6]
 |d::l,vs,h=>by simp[N6];have h0:=h 0 d rfl;refine⟨h0.1,h0.2.1,by simpa using h0.2.2,z7d fun i c hc=>?_⟩;have:=h (i+1) c (by simpa using hc);rw[List.drop_drop];rw[Nat.succ_mul,Nat.add_comm]at this;exact this
def Mu(P:H0):Nat->V Field->Nat->D1
 |o,[],n=>Nat.beq o n|o,f::fs,n=>cond (Nat.beq f.offset o) (Mu P (o+P.cellsOf f.type) fs n) false
def WT(P:H0)(TS:V TypeId)(t:TypeId):D1:=match P.underlying t with
 |some .bool=>true|some (.int _)=>true
 |some .string=>true|some (.slice e)=>cond (TS.any (Nat.beq e)) (Nat.blt 0 (P.cellsOf e)) false
 |some (.struct fs)=>cond (Mu P 0 fs.toList (P.cellsOf t)) (fs.toList.all fun f=>TS.any (Nat.beq f.type)) false|some (.array n e)=>cond (TS.any (Nat.beq e)) (Nat.beq (P.cellsOf t) (n*P.cellsOf e)) false
 |_=>false
def closedTS(P:H0)(TS:V TypeId):D1:=TS.all (WT P TS)
def aj{TS:V TypeId}{e:TypeId}(h:TS.any (Nat.beq e)=true):e∈TS:=by
 have⟨x,h1,h2⟩:=List.any_eq_true.1 h;have:e=x:=by simpa[beq_eq]using h2
 rw[this];exact h1
def qsk{W:PL}{P:H0}{fuel:Nat}{cs:V O}:∀(fs:V Field)(o n:Nat),Mu P o fs n=true->n<=cs.length->
  (∀f∈fs,∃us,o3 W us ((cs.drop f.offset).take (P.cellsOf f.type))/\us.length=((cs.drop f.offset).take (P.cellsOf f.type)).length/\okL us=true/\OfTy P fuel f.type us)->
  ∃us,o3 W us (cs.drop o)/\us.length=n-o/\okL us=true/\o<=n/\∀f∈fs,o<=f.offset/\OfTy P fuel f.type ((us.drop (f.offset-o)).take (P.cellsOf f.type))
 |[],o,n,hc,hl,h=>by
  have:o=n:=by simpa[Mu,beq_eq]using hc
  subst this;exact⟨[],by simp[o3],by simp,rfl,zF _,by simp⟩
 |f::fs,o,n,hc,hl,h=>by
  simp only[Mu]at hc;obtain⟨h1,h2⟩:=MN hc;have ho:f.offset=o:=by simpa[beq_eq]using h1
  obtain⟨us,g1,g2,g3,g4,g5⟩:=qsk fs _ n h2 hl fun x hx=>h x (by simp[hx]);obtain⟨u0,k1,k2,k3,k4⟩:=h f (by simp);rw[ho]at k1 k2;have k5:u0.length=P.cellsOf f.type:=by rw[k2];simp;omega
  refine⟨u0++us,?_,by simp[k5,g2];omega,JB k3 g3,by omega,fun x hx=>?_⟩;rw[xg]at k1 g1 ⊢;intro i u hu;rw[List.getElem?_append]at hu;split at hu;rename_i aF;obtain⟨v,q1,q2⟩:=k1 i u hu;rw[List.getElem?_take]at q1;rw[k5]at aF;simp only[aF,if_true]at q1;exact⟨v,q1,q2⟩;rename_i aF;have⟨v,q1,q2⟩:=g1 _ u hu;rw[List.getElem?_drop]at q1 ⊢;exact⟨v,by rw[k5]at q1 aF;rw[show o+i=o+P.cellsOf f.type+(i-P.cellsOf f.type) by omega];exact q1,q2⟩;rcases zI.1 hx with rfl |hx;refine⟨by omega,?_⟩;rw[ho,Nat.sub_self,List.drop_zero,<-k5,List.take_left' rfl];exact k4;have⟨q1,q2⟩:=g5 x hx;refine⟨by omega,?_⟩;rw[show x.offset-o=u0.length+(x.offset-(o+P.cellsOf f.type)) by omega,List.drop_append,List.drop_of_length_le (by omega),List.nil_append,Nat.add_sub_cancel_left];exact q2
def qvb{W:PL}{P:H0}{fuel:Nat}{cs:V O}{e:TypeId}{sz:Nat}:∀(n:Nat),n*sz<=cs.length->
  (∀i,i<n->∃us,o3 W us ((cs.drop (i*sz)).take sz)/\us.length=((cs.drop (i*sz)).take sz).length/\okL us=true/\OfTy P fuel e us)->
  ∃us,o3 W us cs/\us.length=n*sz/\okL us=true/\∀i,i<n->OfTy P fuel e ((us.drop (i*sz)).take sz)
 |0,hl,h=>⟨[],by simp[o3],by simp,rfl,by simp⟩|n+1,hl,h=>by
  rw[Nat.succ_mul]at hl;have⟨us,g1,g2,g3,g4⟩:=qvb n (by omega) fun i hi=>h i (by omega);have⟨u0,k1,k2,k3,k4⟩:=h n (by omega);have k5:u0.length=sz:=by rw[k2];simp;omega
  refine⟨us++u0,?_,by rw[zU,g2,k5,Nat.succ_mul],JB g3 k3,fun i hi=>?_⟩;rw[xg]at k1 g1 ⊢;intro i u hu;rw[List.getElem?_append]at hu;split at hu;exact g1 i u hu;rename_i aF;have⟨v,q1,q2⟩:=k1 _ u hu;rw[List.getElem?_take]at q1;split at q1;rw[List.getElem?_drop]at q1;exact⟨v,by rw[g2]at q1 aF;rw[show i=n*sz+(i-n*sz) by omega];exact q1,q2⟩;cases q1;by_cases iS:i<n;have:=g4 i iS;have sL:i*sz+sz<=us.length:=by rw[g2,<-Nat.succ_mul];exact Nat.mul_le_mul_right _ iS
  rw[List.drop_append_of_le_length (by omega),List.take_append_of_le_length (by simp;omega)];exact this;have:i=n:=by omega
  subst this;rw[<-g2,List.drop_left' rfl,<-k5,List.take_length];exact k4
section
variable{H:Type}{enc:TypeId×O->H}{P:H0}{W:PL}{TS:V TypeId}(Jn:closedTS P TS=true)
include Jn
omit Jn in
def fa{a:Addr}{n:Nat}{cs:V O}(hn:0<n)(h:W.cells? 0 a n=some cs):∃c e fr,a.spot=none/\W.heap[a.block]? = some (.cells c e fr)/\cs.length=n/\∀(k:Nat)(v:O),cs[k]? = some v->c.toList[a.off+k]? = some v:=by
 unfold World.cells? at h;simp[Nat.zero_le,if_true]at h;have⟨g1,g2⟩:=z0h h;have⟨v0,k1,k2⟩:=g2 0 0 (by simp[hn]);have v8:a.spot=none:=by have:=World.cell?_spot k2;simpa[Addr.add]using this
 have hadd:∀k,a.add k=⟨a.block,a.off+k,none⟩:=fun k=>by have⟨b,o,sp⟩:=a;simp only at v8;subst v8;exact yU b o k
 rw[hadd]at k2;unfold World.cell? at k2;rcases hw:W.heap[a.block]? with _|o;simp[hw]at k2;cases o with
 |cells c e fr=>
  refine⟨c,e,fr,v8,rfl,by simpa using g1,fun k v hk=>?_⟩;have aF:k<n:=by have:=(zG.1 hk).1;rw[g1]at this;simpa using this
  have⟨v',q1,q2⟩:=g2 k k (by simp[aF]);rw[hk]at q1;cases q1;rw[hadd]at q2;simp[World.cell?,hw]at q2;simpa using q2
 |_=>simp[hw]at k2
def xd:∀(fuel:Nat)(t:TypeId),t∈TS->∀(cs:V O)(x:DataW H×V MemPlace),DataW.trod enc P W 0 (fun _=>true) true fuel t cs=some x->∃us,o3 W us cs/\us.length=cs.length/\okL us=true/\OfTy P fuel t us
 |0,t,ht,cs,x,h=>by simp[DataW.trod]at h
 |fuel+1,t,ht,cs,x,h=>by
  have pB:=List.all_eq_true.1 Jn t ht;unfold WT at pB;rcases hd:P.underlying t with _|d;simp[hd]at pB;cases d with
  |bool=>obtain⟨b,rfl,_⟩:=DataW.trod_bool hd h;exact⟨[.bool b],by simp[o3,Rep],rfl,rfl,by simp[OfTy,hd]⟩
  |int k=>obtain⟨n,rfl,_,Ir⟩:=DataW.trod_int hd h;exact⟨[.int k n],by simp[o3,Rep],rfl,rfl,by simp[OfTy,hd,Ir]⟩
  |string=>obtain⟨s,rfl,_,dU⟩:=DataW.trod_string hd h;refine⟨[.str s.data.toList],by simp[o3,Rep],rfl,rfl,?_⟩;simp only[OfTy,hd];exact⟨_,rfl,by simpa using dU⟩
  |slice e=>
   simp only[hd]at pB;obtain⟨hte,gA⟩:=MN pB;have he:=aj hte;have dU:0<P.cellsOf e:=J6 gA;rcases DataW.trod_slice hd h with⟨rfl,_⟩|⟨a,len,cap,EL,rest,n,Jj,rfl,_,_,pg,hcm,aZ,hel,v8,_⟩;refine⟨[.isl false []],by simp[o3,Rep],rfl,rfl,?_⟩;simp only[OfTy,hd];exact⟨[],rfl,by simp,by simp⟩;have hn:n=fuel:=by omega
   subst hn;have gM:cap<bY:=by unfold bY;unfold maxLen at hcm;omega
   have each:∀i,i<len->∃us,us.length=P.cellsOf e/\okL us=true/\OfTy P n e us/\∃c ty fr,a.spot=none/\W.heap[a.block]? = some (.cells c ty fr)/\o3 W us (c.toList.drop (a.off+i*P.cellsOf e)):=by
    intro i hi;have h1:=hel i hi;have h2:EL[i]? = some EL[i]:=by simp[aZ,hi]
    rw[h2]at h1;rcases hc:W.cells? 0 (a.add (i*P.cellsOf e)) (P.cellsOf e)with _|ci;simp[hc]at h1;simp only[hc,Option.bind_some]at h1;obtain⟨us,r1,r2,r3,r4⟩:=xd n e he ci _ h1;obtain⟨c,ty,fr,k1,k2,k3,k4⟩:=fa dU hc;have Ae:a.spot=none:=by
     have h3:=hel 0 (by omega);have h4:EL[0]? = some (EL[0]'(by omega)):=by simp[aZ,show 0<len by omega]
     rw[h4]at h3;rcases KF:W.cells? 0 (a.add (0*P.cellsOf e)) (P.cellsOf e)with _|c0;rw[KF]at h3;cases h3;obtain⟨_,_,_,q1,_⟩:=fa dU KF;simpa[Addr.add]using q1
    have hadd:a.add (i*P.cellsOf e)=⟨a.block,a.off+i*P.cellsOf e,none⟩:=by obtain⟨b,o,sp⟩:=a;simp only at Ae;subst Ae;exact yU b o _
    rw[hadd]at k2 k4;refine⟨us,by rw[r2,k3],r3,r4,c,ty,fr,Ae,k2,?_⟩;rw[xg]at r1 ⊢;intro k u hu;obtain⟨v,q1,q2⟩:=r1 k u hu;exact⟨v,by rw[List.getElem?_drop];exact k4 k v q1,q2⟩
   have all:∀m,m<=len->∃l:V (V U),l.length=m/\∀(i:Nat)(us:V U),l[i]? = some us->us.length=P.cellsOf e/\okL us=true/\OfTy P n e us/\∃c ty fr,a.spot=none/\W.heap[a.block]? = some (.cells c ty fr)/\o3 W us (c.toList.drop (a.off+i*P.cellsOf e)):=by
    intro m;induction m with
    |zero=>intro _;exact⟨[],rfl,by simp⟩|succ m ih=>
     intro hm;obtain⟨l,l1,l2⟩:=ih (by omega);obtain⟨us,hus⟩:=each m (by omega);refine⟨l++[us],by simp[l1],fun i vs CG=>?_⟩;rw[List.getElem?_append]at CG;split at CG;exact l2 i vs CG;rename_i EB;have:i=m:=by have:=(zG.1 CG).1;simp at this;omega
     subst this;rw[l1,Nat.sub_self]at CG;simp at CG;subst CG;exact hus
   obtain⟨l,l1,l2⟩:=all len (zF _);refine⟨[.isl false l],?_,rfl,rfl,?_⟩;simp only[o3,and_true,Rep,true_and];by_cases MX:l=[];subst MX;simp at l1;subst l1;obtain⟨b,o,sp⟩:=a;rcases sp with _|p;exact .inr ⟨b,o,cap,rfl,gM,Nat.zero_le _,.inl rfl⟩;rcases Nat.eq_zero_or_pos cap with h0 |hp;subst h0;exact .inl ⟨rfl,.inr ⟨b,o,p,rfl⟩⟩;exfalso;obtain⟨s1,s2⟩:=v8 rfl;have h3:=s2 0 (by omega);have h4:rest[0]? = some (rest[0]'(by omega)):=by simp[s1,hp]
   rw[h4]at h3;rcases KF:W.cells? 0 (Addr.add ⟨b,o,some p⟩ ((0+0)*P.cellsOf e)) (P.cellsOf e)with _|c0;rw[KF]at h3;cases h3;obtain⟨_,_,_,q1,_⟩:=fa dU KF;simp[Addr.add]at q1;obtain⟨zh,hus0⟩:∃zh,l[0]? = some zh:=by cases l with
    |nil=>exact absurd rfl MX|cons a l=>exact⟨a,rfl⟩
   obtain⟨_,_,_,c,ty,fr,TP,hw,_⟩:=l2 0 zh hus0;refine .inr ⟨a.block,a.off,cap,by obtain⟨b,o,sp⟩:=a;simp only at TP;subst TP;rw[l1],gM,by omega,.inr ⟨c,ty,fr,P.cellsOf e,hw,z7d fun i us hi=>?_⟩⟩;obtain⟨q1,q2,_,c',ty',fr',_,wB,q3⟩:=l2 i us hi;rw[hw]at wB;cases wB;exact⟨q1,q2,by rw[List.drop_drop];exact q3⟩;simp only[OfTy,hd];refine⟨l,rfl,by omega,fun us hus=>?_⟩;obtain⟨i,hi⟩:=List.mem_iff_getElem?.1 hus;exact(l2 i us hi).2.2.1
  |struct fs=>
   simp only[hd]at pB;obtain⟨hcg,cU⟩:=MN pB;obtain⟨xs,m,Jj,_,hl,TL,hf⟩:=DataW.trod_struct hd h;have hm:m=fuel:=by omega
   subst hm;obtain⟨us,g1,g2,g3,_,g5⟩:=qsk (W:=W) (P:=P) (fuel:=m) (cs:=cs) fs.toList 0 (P.cellsOf t) hcg (by omega) fun f uK=>by
    obtain⟨i,hi⟩:=List.mem_iff_getElem?.1 uK;have h1:=hf i f (by simpa using hi);have h2:i<xs.length:=by rw[TL];have:=(zG.1 hi).1;simpa using this
    rw[show xs[i]? = some xs[i] by simp[h2]]at h1;exact xd m f.type (aj (List.all_eq_true.1 cU f uK)) _ _ h1
   refine⟨us,by simpa using g1,by omega,g3,?_⟩;simp only[OfTy,hd];exact⟨by omega,fun f uK=>by simpa using(g5 f uK).2⟩
  |array n e=>
   simp only[hd]at pB;obtain⟨hte,iE⟩:=MN pB;have he:=aj hte;obtain⟨xs,m,Jj,_,hl,TL,hf⟩:=DataW.trod_array hd h;have hm:m=fuel:=by omega
   subst hm;have pw:P.cellsOf t=n*P.cellsOf e:=by simpa[beq_eq]using iE
   obtain⟨us,g1,g2,g3,g4⟩:=qvb (W:=W) (P:=P) (fuel:=m) (cs:=cs) (e:=e) (sz:=P.cellsOf e) n (by omega) fun i hi=>by have h1:=hf i hi;rw[show xs[i]? = some xs[i] by simp[TL,hi]]at h1;exact xd m e he _ _ h1
   refine⟨us,g1,by omega,g3,?_⟩;simp only[OfTy,hd];exact⟨by omega,g4⟩
  |_=>simp[hd]at pB
def OfArg(P:H0)(t:TypeId)(u:U):Prop:=∃fuel us,OfTy P fuel t us/\match P.underlying t with
 |some (.struct _)=>u=.agg us|some (.array _ _)=>u=.agg us
 |_=>us=[u]
def OfArgs(P:H0):V TypeId->V U->Prop
 |[],us=>us=[]|t::ts,us=>∃u Em,us=u::Em/\OfArg P t u/\OfArgs P ts Em
def zch{t:TypeId}(ht:t∈TS){v:O}{d:DataW H}{ps:V MemPlace}{r:Reach}{b0:Nat}(eP:Value.okWide P W r b0 t v)(h:DataW.Trod enc P W 0 (fun _=>true) true t v d ps):∃u,Rep W u v/\OfArg P t u:=by
 have⟨fuel,hf⟩:=h;have⟨us,h1,h2,h3,h4⟩:=xd Jn fuel t ht _ _ hf;have pB:=List.all_eq_true.1 Jn t ht;unfold WT at pB;have one:v.cells.toList=[v]->(match P.underlying t with
   |some (.struct _)=>False|some (.array _ _)=>False
   |_=>True)->∃u,Rep W u v/\OfArg P t u:=fun hc hm=>by
  rw[hc]at h1 h2
  match us,h2 with
  |[u],_=>simp[o3,and_true]at h1;refine⟨u,h1,fuel,[u],h4,?_⟩;split<;>simp_all
 have agg:(∃cs,v=.agg cs)->(match P.underlying t with
   |some (.struct _)=>True|some (.array _ _)=>True
   |_=>False)->∃u,Rep W u v/\OfArg P t u:=fun⟨cs,hc⟩ hm=>by
  subst hc;refine⟨.agg us,?_,fuel,us,h4,?_⟩;simp[Rep];exact⟨cs.toList,rfl,h1,h2,h3⟩;split<;>simp_all
 unfold Value.okWide at eP;rcases hd:P.underlying t with _|dd;simp[hd]at pB;cases dd with
 |struct fs=>simp[hd]at eP;have⟨cs,hc,_⟩:=eP;exact agg ⟨cs,hc⟩ (by simp[hd])
 |array n e=>simp[hd]at eP;have⟨cs,hc,_⟩:=eP;exact agg ⟨cs,hc⟩ (by simp[hd])
 |bool=>refine one ?_ (by simp[hd]);simp[hd,Cell.okWide]at eP;cases v<;>first |rfl |(simp[Cell.ok,hd]at eP)
 |int k=>refine one ?_ (by simp[hd]);simp[hd,Cell.okWide]at eP;cases v<;>first |rfl |(simp[Cell.ok,hd]at eP)
 |string=>refine one ?_ (by simp[hd]);simp[hd,Cell.okWide]at eP;cases v<;>first |rfl |(simp[Cell.ok,hd]at eP)
 |slice e=>refine one ?_ (by simp[hd]);simp[hd,Cell.okWide]at eP;cases v<;>first |rfl |(simp[Cell.ok,hd]at eP)
 |_=>simp[hd]at pB
def args_rep:∀{ts:V TypeId}{vs:V O}{ds:V (DataW H)}{ps:V MemPlace}{r:Reach}{b0:Nat},(∀t∈ts,t∈TS)->(∀(j:Nat) t v,ts[j]? = some t->vs[j]? = some v->Value.okWide P W r b0 t v)->DataW.TrodAll enc P W 0 (fun _=>true) true ts vs ds ps->
  ∃us,o3 W us vs/\us.length=vs.length/\OfArgs P ts us
 |[],[],[],ps,r,b0,ht,eP,h=>⟨[],by simp[o3],rfl,rfl⟩|t::ts,v::vs,d::ds,ps,r,b0,ht,eP,h=>by have⟨p,q,h1,h2,_⟩:=h;have⟨u,g1,g2⟩:=zch Jn (ht t (by simp)) (eP 0 t v rfl rfl) h1;have⟨us,k1,k2,k3⟩:=args_rep (fun x hx=>ht x (by simp[hx])) (fun j x y h3 h4=>eP (j+1) x y (by simpa using h3) (by simpa using h4)) h2;exact⟨u::us,by simp[o3,g1,k1],by simp[k2],u,us,rfl,g2,k3⟩
 |[],_::_,_,ps,r,b0,ht,eP,h=>by simp[DataW.TrodAll]at h
 |[],[],_::_,ps,r,b0,ht,eP,h=>by simp[DataW.TrodAll]at h
 |_::_,[],_,ps,r,b0,ht,eP,h=>by simp[DataW.TrodAll]at h
 |_::_,_::_,[],ps,r,b0,ht,eP,h=>by simp[DataW.TrodAll]at h
end
def OX:M lP->M lP
 |some (.inl (l,e,1))=>some (.inl (l,e,1))|_=>none
def Eh(g:Nat->M lP):Hp->Hp
 |[]=>[]|(i,_)::h=>match g i with
  |some b=>(i,b)::Eh g h|none=>Eh g h
def z62(g:Nat->M lP):∀(h:Hp)(i:Nat),lk (Eh g h) i=(match lk h i with |some _=>g i |none=>none)
 |[],i=>by simp[Eh,lk]
 |(j,b)::h,i=>by
  have ih:=z62 g h i;simp[Eh];cases hg:g j with
  |none=>simp[n9];by_cases e:j=i;subst e;simp[if_true];rw[ih,hg];split<;>rfl;simp[e,if_false];exact ih|some c=>simp[n9];by_cases e:j=i;subst e;simp[hg];simp[e,if_false];exact ih
def vY(s:S):S:=⟨Eh (fun i=>OX (lk s.h i)) s.h,s.nx⟩
def FF(s:S)(i:Nat):lk (vY s).h i=OX (lk s.h i):=by simp[vY,z62];rcases h:lk s.h i with _|b;rfl;simp
def MJ{o:M lP}{b:lP}(h:OX o=some b):o=some b/\∃l e,b=.inl (l,e,1):=by unfold OX at h;split at h;simp at h;subst h;exact⟨rfl,_,_,rfl⟩;cases h
def iv(s:S):Less s (vY s):=⟨zF _,fun i b hb=>by rw[FF]at hb;exact(MJ hb).1⟩
def b7.view{P:H0}{f:FuncId}{args args':V U}{X:Sg}{u:U}{v:O}(h:b7 P f args ⟨[],0⟩ (fun u' _=>u'=u/\bA 0 u'))(ha:aM 0 args)(hu:toV u=some v)(CM:∀m,ren m v=v){X1:Sg}(hg:Gh 0 args' X args X1):b7 P f args' X (fun u' X'=>u'=u/\X'=X):=fun F x vs m w cargs hx hh k9 he dR bW=>by
 have⟨y1,a1,a2,a3,a4,a5,a6⟩:=hg F x vs hx hh k9 he;have fP:=a1 m w dR;have cW:=bG.less fP.fits (iv y1.s);have gI:Mo 0 y1 (cx (vY y1.s)):=⟨fun k hk=>by omega,fun i row e hl=>by show lk (vY y1.s).h i=_;rw[FF,hl];rfl⟩;have fD:∀b,¬ N7 m (vY y1.s) b:=fun b ⟨i,c,hc,ho,_⟩=>by rw[FF]at hc;obtain⟨_,l,e,rfl⟩:=MJ hc;simp[Own]at ho
 refine(h (fun _ _=>False) (cx (vY y1.s)) vs m w cargs rfl ⟨fun k b hb=>by simp[cx,gt]at hb,fun k k' b b' i hb=>by simp[cx,gt]at hb,fun i b hb=>?_⟩ (fun _ _ J=>J.elim) (gI.ke.E ha a5) cW.fits (bW.ext (aI.refl _ _) (Nat.le_trans fP.nx cW.nx))).mono ?_;have cP:lk (vY y1.s).h i=some b:=hb;rw[FF]at cP;exact a3.bd i b (MJ cP).1;rintro e mO ⟨y2,C7,u',v',cv,rfl,⟨rfl,_⟩,aS,fU,_,_,xG,_,_⟩;have hv:=(yV u' v hu y2 v').1 xG;subst hv;have Vw:cv=v':=by rw[<-fU.at,CM]
 subst Vw;have qL:∀b,b<w.heap.size->mO.heap[b]? = w.heap[b]?:=fun b aF=>aS.same b aF (fD b);refine⟨x,m,u',cv,cv,rfl,⟨rfl,hx⟩,⟨aI.refl _ _,zF _,fun m' eF=>?_,fun b h=>.inl h,fun b aF _=>qL b aF,aS.size,aS.os,aS.tape,aS.output⟩,fun m' _=>CM m',hh,k9,(yV u' cv hu x cv).2 rfl,Ke.refl _ _,zF _⟩;have uK:=dR m' eF;exact⟨fun i b hb=>(uK.ok i b hb).world (qL _ (uK.size hb)),uK.inj,uK.bd⟩
abbrev RK:=Nat×eX
def RH(P:H0)(T:Tb)(aB:V Oper):V Oper->V U->Sg->V RK->(V RK->V U->Sg->Prop)->Prop
 |[],tm,X,bD,K=>K bD tm X|o::r,tm,X,bD,K=>(cX aB tm o=some true/\∃u,bO T X tm o.op=some (u,X)/\RH P T aB r (eS tm o.dst u) X ((1,⟨tm,o,u,false,false,X,X⟩)::bD) K)\/ (cX aB tm o=some true/\∃u X',bO T X tm o.op=some (u,X')/\RH P T aB r (eS tm o.dst u) X' ((3,⟨tm,o,u,true,true,X,X'⟩)::bD) K)\/ (cX aB tm o=some true/\∃f args u,kN T tm o.op=some (f,args)/\b7 P f args X (fun u' X'=>u'=u/\X'=X)/\RH P T aB r (eS tm o.dst u) X ((2,⟨tm,o,u,true,false,X,X⟩)::bD) K)\/ (cX aB tm o=some true/\∃f args u X',kN T tm o.op=some (f,args)/\b7 P f args X (fun u' s'=>u'=u/\s'=X')/\RH P T aB r (eS tm o.dst u) X' ((3,⟨tm,o,u,true,true,X,X'⟩)::bD) K)\/ (cX aB tm o=some false/\RH P T aB r (eS tm o.dst (.tup [])) X ((0,⟨tm,o,.tup [],false,false,X,X⟩)::bD) K)\/ (cX aB tm o=some true/\∃u,B5 P T tm o.op u/\RH P T aB r (eS tm o.dst u) X ((0,⟨tm,o,u,false,false,X,X⟩)::bD) K)\/ (cX aB tm o=some true/\∃u1 s1 d u X',bO T X tm o.op=some (u1,s1)/\o.dst=some d/\d<tm.length/\Gh s1.nx [u1] s1 [u] X'/\s1.nx<=X'.nx/\RH P T aB r (eS tm o.dst u) X' ((3,⟨tm,o,u,true,true,X,X'⟩)::bD) K)
def kindOk(T:Tb)(aB:V Oper)(x:RK):Prop :=
 (x.1=0/\(cX aB x.2.tm x.2.o=some false\/bO T x.2.s x.2.tm x.2.o.op≠some (x.2.u,x.2.s'))/\x.2.act=false/\x.2.mv=false)\/(x.1=1/\x.2.act=false/\x.2.mv=false)\/(x.1=2/\x.2.act=true/\x.2.mv=false)\/(x.1=3/\x.2.act=true/\x.2.mv=true)
def RD.mono{P:H0}{T:Tb}{aB:V Oper}:∀{rest:V Oper}{tm:V U}{X:Sg}{K K':V eX->V U->Sg->Prop},(∀rs tm X,K rs tm X->K' rs tm X)->RD P T aB rest tm X K->RD P T aB rest tm X K'
 |[],tm,X,K,K',hk,h=>hk _ _ _ h|o::rest,tm,X,K,K',hk,h=>by simp[RD]at h ⊢;rcases h with⟨hw,u,h1,h2⟩|⟨hw,u,X1,h1,h2⟩|⟨hw,f,args,u,h1,h2,h3⟩|⟨hw,f,args,u,X1,h1,h2,h3⟩|⟨hw,h1⟩|⟨hw,u,h1,h3⟩|⟨hw,u1,s1,d,u,X1,h1,h2,h3,h4,h5,h6⟩;exact .inl ⟨hw,u,h1,RD.mono (fun _ _ _ h=>hk _ _ _ h) h2⟩;exact .inr (.inl ⟨hw,u,X1,h1,RD.mono (fun _ _ _ h=>hk _ _ _ h) h2⟩);exact .inr (.inr (.inl ⟨hw,f,args,u,h1,h2,RD.mono (fun _ _ _ h=>hk _ _ _ h) h3⟩));exact .inr (.inr (.inr (.inl ⟨hw,f,args,u,X1,h1,h2,RD.mono (fun _ _ _ h=>hk _ _ _ h) h3⟩)));exact .inr (.inr (.inr (.inr (.inl ⟨hw,RD.mono (fun _ _ _ h=>hk _ _ _ h) h1⟩))));exact .inr (.inr (.inr (.inr (.inr (.inl ⟨hw,u,h1,RD.mono (fun _ _ _ h=>hk _ _ _ h) h3⟩)))));exact .inr (.inr (.inr (.inr (.inr (.inr ⟨hw,u1,s1,d,u,X1,h1,h2,h3,h4,h5,RD.mono (fun _ _ _ h=>hk _ _ _ h) h6⟩)))))
def RH.rd{P:H0}{T:Tb}{aB:V Oper}:∀{rest:V Oper}{tm:V U}{X:Sg}{bD:V RK}{K:V RK->V U->Sg->Prop},RH P T aB rest tm X bD K->
  RD P T aB rest tm X (fun rs tm' X'=>∃ks:V RK,ks.map (·.2)=rs/\(∀x∈ks,kindOk T aB x)/\K (ks.reverse++bD) tm' X')
 |[],tm,X,bD,K,h=>⟨[],rfl,by simp,h⟩|o::rest,tm,X,bD,K,h=>by
  have step:∀(k:RK),kindOk T aB k->∀(rs:V eX)(tm':V U)(X':Sg),(∃ks:V RK,ks.map (·.2)=rs/\(∀x∈ks,kindOk T aB x)/\K (ks.reverse++k::bD) tm' X')->
    ∃ks:V RK,ks.map (·.2)=k.2::rs/\(∀x∈ks,kindOk T aB x)/\K (ks.reverse++bD) tm' X':=by
   rintro k hk rs tm' X' ⟨ks,h1,h2,h3⟩;refine⟨k::ks,by simp[h1],?_,by simpa using h3⟩;intro x hx;rcases zI.1 hx with rfl |hx;exact hk;exact h2 x hx
  simp only[RH]at h;simp only[RD];rcases h with⟨hw,u,h1,h2⟩|⟨hw,u,X1,h1,h2⟩|⟨hw,f,args,u,h1,h2,h3⟩|⟨hw,f,args,u,X1,h1,h2,h3⟩|⟨hw,h1⟩|⟨hw,u,h1,h3⟩|⟨hw,u1,s1,d,u,X1,h1,h2,h3,h4,h5,h6⟩;exact .inl ⟨hw,u,h1,RD.mono (step (1,_) (.inr (.inl ⟨rfl,rfl,rfl⟩))) (RH.rd h2)⟩;exact .inr (.inl ⟨hw,u,X1,h1,RD.mono (step (3,_) (.inr (.inr (.inr ⟨rfl,rfl,rfl⟩)))) (RH.rd h2)⟩);exact .inr (.inr (.inl ⟨hw,f,args,u,h1,h2,RD.mono (step (2,_) (.inr (.inr (.inl ⟨rfl,rfl,rfl⟩)))) (RH.rd h3)⟩));exact .inr (.inr (.inr (.inl ⟨hw,f,args,u,X1,h1,h2,RD.mono (step (3,_) (.inr (.inr (.inr ⟨rfl,rfl,rfl⟩)))) (RH.rd h3)⟩)));exact .inr (.inr (.inr (.inr (.inl ⟨hw,RD.mono (step (0,_) (.inl ⟨rfl,.inl hw,rfl,rfl⟩)) (RH.rd h1)⟩))));exact .inr (.inr (.inr (.inr (.inr (.inl ⟨hw,u,h1,RD.mono (step (0,_) (.inl ⟨rfl,.inr (h1.noop _),rfl,rfl⟩)) (RH.rd h3)⟩)))));exact .inr (.inr (.inr (.inr (.inr (.inr ⟨hw,u1,s1,d,u,X1,h1,h2,h3,h4,h5,RD.mono (step (3,_) (.inr (.inr (.inr ⟨rfl,rfl,rfl⟩)))) (RH.rd h6)⟩)))))
def allI{v11:Type}(p:Nat->v11->D1):Nat->V v11->D1
 |_,[]=>true|b,x::l=>p b x&&allI p (b+1) l
def ak{v11:Type}{p:Nat->v11->D1}:∀{b:Nat}{l:V v11},allI p b l=true->∀{j:Nat}{x:v11},l[j]? = some x->p (b+j) x=true
 |b,[],_,j,x,hx=>by simp at hx
 |b,y::l,h,j,x,hx=>by
  simp[allI,Bool.and_eq_true]at h;cases j with
  |zero=>simp at hx;subst hx;exact h.1|succ j=>
   simp[zH]at hx;have:=ak h.2 hx
   rwa [show b+1+j=b+(j+1) by omega]at this
def Ip(k:Nat):Nat:=cond (Nat.beq k 3) 1 0
def trip:Nat->V Nat->V Nat->V (Nat×Nat×Nat)
 |c,k::ks,m::ms=>(k,m,c)::trip (c+Ip k) ks ms|_,_,_=>[]
def qF:V Nat->Nat
 |[]=>0|k::ks=>Ip k+qF ks
def z83:∀(ks ms:V Nat)(c j k m:Nat),ks[j]? = some k->ms[j]? = some m->(trip c ks ms)[j]? = some (k,m,c+qF (ks.take j))
 |[],_,c,j,k,m,h,_=>by simp at h
 |_::_,[],c,j,k,m,_,h=>by simp at h
 |k0::ks,m0::ms,c,0,k,m,h1,h2=>by simp at h1 h2;subst h1;subst h2;simp[trip,qF]
 |k0::ks,m0::ms,c,j+1,k,m,h1,h2=>by simp[zH]at h1 h2;simp[trip,zH,List.take_succ_cons,qF];rw[z83 ks ms _ j k m h1 h2];simp[Nat.add_assoc]
def FP(i k:Nat):V (Nat×Nat)->D1
 |[]=>false|p::l=>(Nat.beq i p.1&&Nat.beq k p.2)||FP i k l
def aa{i k:Nat}:∀{l:V (Nat×Nat)},FP i k l=true->(i,k)∈l
 |[],h=>by simp[FP]at h
 |p::l,h=>by simp only[FP,Bool.or_eq_true,Bool.and_eq_true]at h;rcases h with⟨h1,h2⟩|h;rw[Nat.eq_of_beq_eq_true h1,Nat.eq_of_beq_eq_true h2];simp;exact List.mem_cons_of_mem _ (aa h)
def Sq(pr:V (Nat×Nat))(i:Nat)(a:Nat×Nat×Nat)(k:Nat)(b:Nat×Nat×Nat):D1 :=
 cond (Nat.ble 2 b.1) (cond (Nat.ble 2 a.1) (cond (Nat.blt k i) (Nat.testBit a.2.1 k) true) (cond (Nat.beq a.1 1) (cond (Nat.blt k i) (Nat.testBit a.2.1 k||(Nat.beq b.2.2 a.2.2||FP i k pr)) (Nat.testBit b.2.1 i||(Nat.beq a.2.2 (b.2.2+Ip b.1)||FP i k pr)))
    true))
  true
def flE(aB:V Oper)(ks:V Nat)(pr:V (Nat×Nat)):D1 :=
 let L:=trip 0 ks (eE aB [])
 allI (fun i a=>allI (fun k b=>Sq pr i a k b) 0 L) 0 L
def qx(T:Tb)(ks:V RK)(p:Nat×Nat):Prop:=match nth ks p.1,nth ks p.2 with
 |some r,some q=>cond (Nat.blt p.2 p.1) (bO T q.2.s r.2.tm r.2.o.op=some (r.2.u,q.2.s)) (bO T q.2.s' r.2.tm r.2.o.op=some (r.2.u,q.2.s'))|_,_=>False
def wm(T:Tb)(ks:V RK):V (Nat×Nat)->Prop
 |[]=>True|p::l=>qx T ks p/\wm T ks l
def np{T:Tb}{ks:V RK}:∀{l:V (Nat×Nat)},wm T ks l->∀p∈l,qx T ks p
 |[],_,p,hp=>by cases hp
 |q::l,h,p,hp=>by rcases zI.1 hp with rfl |hp;exact h.1;exact np h.2 p hp
def z96{ks:V Nat}:∀{q p:Nat},p<=q->q<=ks.length->qF (ks.take p)=qF (ks.take q)->∀(e k:Nat),p<=e->e<q->ks[e]? = some k->k≠3
 |q,p,TR,hq,h,e,k,h1,h2,h3=>by
  have mono:∀(l:V Nat)(a b:Nat),a<=b->qF (l.take a)<=qF (l.take b):=by
   intro l;induction l with
   |nil=>intro a b _;simp[qF]|cons x l ih=>
    intro a b vJ;cases a with
    |zero=>simp[qF]|succ a=>cases b with|zero=>omega|succ b=>simp[List.take_succ_cons,qF];have:=ih a b (by omega);omega
  have succ:∀(l:V Nat)(a k:Nat),l[a]? = some k->qF (l.take (a+1))=qF (l.take a)+Ip k:=by
   intro l;induction l with
   |nil=>intro a k h;simp at h|cons x l ih=>
    intro a k h;cases a with
    |zero=>simp at h;subst h;simp[qF]|succ a=>simp[zH]at h;simp[List.take_succ_cons,qF];rw[ih a k h];omega
  intro hk;have a1:=mono ks p e h1;have a2:=succ ks e k h3;have a3:=mono ks (e+1) q (by omega);rw[hk]at a2;have:Ip 3=1:=rfl;omega
section
variable{C:PG}{T:Tb}(hT:kT C.prog T){n0:Nat}{Q:Exit->V U->Sg->Prop}{tm:V U}{X:Sg}
include hT
def WPU.drawE {id : Nat} {aB : H2 Oper} (pr : V (Nat × Nat)) (cK : Y9 aB.toList = true)
    (h:RH C.prog T aB.toList aB.toList tm X [] (fun ks tm' X'=> flE aB.toList (ks.reverse.map (·.1)) pr=true/\wm T ks.reverse pr/\Q .normal tm' X')):WPU C n0 (.region id aB true) tm X Q:=by
  obtain⟨rs,tm',X',⟨ks,tS,ph,CV,CN,hQ⟩,g2,g3,g4,g5⟩:=QY _ _ _ _ (RH.rd h);simp only[List.append_nil,List.reverse_reverse]at CV CN;have jV:gp C.prog T aB.toList tm X rs tm' X':=⟨g2,g3,g4,fun i r hr=> by obtain⟨a,b,c,d,_⟩:=g5 i r hr;exact⟨a,b,c,d⟩⟩;have same : ∀(p q:Nat),p<=q->q<=rs.length->(∀(e:Nat)(r:eX),p<=e->e<q->rs[e]? = some r->r.mv=false)->kL rs X' p=kL rs X' q:=by
    intro p q TR hq fD;induction q with
    | zero => have : p = 0 := by omega
              rw[this]
    |succ q ih=>
      rcases Nat.lt_or_ge q p with h |h;have:p=q+1:=by omega
      rw[this];rw[ih h (by omega) fun e r h1 h2 h3=> fD e r h1 (by omega) h3];have hr:rs[q]? = some rs[q]:=by simp[show q<rs.length by omega]
      obtain⟨_,_,k3,_,k5,_⟩:=g5 q _ hr;rw[k3,k5 (fD q _ h (zN _) hr)];simp[kL,hr]
  have aZ:ks.length=rs.length:=by rw[<-tS];simp
  have at_ : ∀(i:Nat)(r:eX),rs[i]? = some r->∃k,ks[i]? = some (k,r)/\kindOk T aB.toList (k,r):=by intro i r hr;rw[<-tS]at hr;simp only[List.getElem?_map]at hr;rcases hk:ks[i]? with _|x;rw[hk]at hr;simp at hr;obtain⟨k,r'⟩:=x;rw[hk]at hr;simp at hr;subst hr;exact⟨k,rfl,ph _ (zX hk)⟩
  have trp : ∀(i k:Nat)(r:eX),ks[i]? = some (k,r)->∃m,(eE aB.toList [])[i]? = some m/\(trip 0 (ks.map (·.1)) (eE aB.toList []))[i]? = some (k,m,qF ((ks.map (·.1)).take i)):=by
    intro i k r hk;obtain⟨m1,_,_⟩:=fu aB.toList [];have hi:i<aB.toList.length:=by rw[<-g2, <-aZ];exact(zG.1 hk).1
    have hm:i<(eE aB.toList []).length:=by rw[m1];simpa using hi
    refine⟨(eE aB.toList [])[i],by simp[hm], ?_⟩;have:=z83 (ks.map (·.1)) (eE aB.toList []) 0 i k _ (by simp[hk]) (show(eE aB.toList [])[i]? = some (eE aB.toList [])[i] by simp[hm])
    rwa [Nat.zero_add]at this
  have chk : ∀ (i k ki kk : Nat) (r q : eX), ks[i]? = some (ki, r) -> ks[k]? = some (kk, q) -> ∃ mi mk, (eE aB.toList [])[i]? = some mi /\ (eE aB.toList [])[k]? = some mk /\
      Sq pr i (ki,mi,qF ((ks.map (·.1)).take i)) k (kk,mk,qF ((ks.map (·.1)).take k))=true:=by
    intro i k ki kk r q hi hk;obtain⟨mi,e1,e2⟩:=trp i ki r hi;obtain⟨mk,e3,e4⟩:=trp k kk q hk;refine⟨mi,mk,e1,e3, ?_⟩;have h1:=ak CV e2;have h2:=ak h1 e4;simpa using h2
  have nomv : ∀(p q:Nat),p<=q->q<=rs.length->qF ((ks.map (·.1)).take p)=qF ((ks.map (·.1)).take q)->kL rs X' p=kL rs X' q:=by
    intro p q TR hq hc;refine same p q TR hq fun e r h1 h2 h3=> ?_;obtain⟨k,hk,Vh⟩:=at_ e r h3;have:=z96 TR (by simp;omega) hc e k h1 h2 (by simp[hk]);rcases Vh with h |h |h |h
    exact h.2.2.2;exact h.2.2;exact h.2.2;exact absurd h.1 this
  have kact : ∀(i:Nat)(r:eX),rs[i]? = some r->r.act=true->∃k,ks[i]? = some (k,r)/\Nat.ble 2 k=true:=by intro i r hr ha;obtain⟨k,hk,Vh⟩:=at_ i r hr;refine⟨k,hk, ?_⟩;rcases Vh with h |h |h |h;have:=h.2.2.1;simp only[]at this;rw[ha]at this;cases this;have:=h.2.1;simp only[]at this;rw[ha]at this;cases this;have:=h.1;simp only[]at this;subst this;rfl;have:=h.1;simp only[]at this;subst this;rfl
  have kqu : ∀(i:Nat)(r:eX),rs[i]? = some r->r.act=false->cX aB.toList r.tm r.o=some true->bO T r.s r.tm r.o.op=some (r.u,r.s')->ks[i]? = some (1,r):=by intro i r hr ha hw hl;obtain⟨k,hk,Vh⟩:=at_ i r hr;rcases Vh with h |h |h |h;rcases h.2.1 with h' |h';simp only[]at h';rw[hw]at h';cases h';exact absurd hl h';have:=h.1;simp only[]at this;subst this;exact hk;have:=h.2.1;simp only[]at this;rw[ha]at this;cases this;have:=h.2.1;simp only[]at this;rw[ha]at this;cases this
  have succ : ∀(l:V Nat)(a k:Nat),l[a]? = some k->qF (l.take (a+1))=qF (l.take a)+Ip k:=by
    intro l;induction l with
    |nil=> intro a k h;simp at h|cons x l ih=>
      intro a k h;cases a with
      |zero=> simp at h;subst h;simp[qF]|succ a=> simp only[zH]at h;simp only[List.take_succ_cons,qF];rw[ih a k h];omega
  refine WPU.drawn hT cK jV ⟨fun i k r q hr hq ha hb aF=> ?_,fun i k r q hr hq ha hw hl hb aF=> ?_,fun i k r q hr hq ha hw hl hb aF=> ?_⟩ (fun i r hr h=> (g5 i r hr).2.2.2.2.2 h) hQ;obtain⟨ki,h1,h2⟩:=kact i r hr ha;obtain⟨kk,h3,h4⟩:=kact k q hq hb;obtain⟨mi,mk,e1,e2,e3⟩:=chk i k ki kk r q h1 h3;simp only[Sq,h2,h4,zC,rG aF]at e3;exact⟨mi,e1,e3⟩;have h1:=kqu i r hr ha hw hl;obtain⟨kk,h3,h4⟩:=kact k q hq hb;obtain⟨mi,mk,e1,e2,e3⟩:=chk i k 1 kk r q h1 h3;have vH:Nat.ble 2 1=false:=rfl;have uN:Nat.beq 1 1=true:=rfl;simp only[Sq,vH,uN,h4,zC,zD,rG aF,Bool.or_eq_true]at e3;rcases e3 with e3 |e3 |e3;exact .inl ⟨mi,e1,e3⟩;have:=nomv k i (by omega) (by have:=(zG.1 hr).1;omega) (Nat.eq_of_beq_eq_true e3);exact .inr (.inl (by simpa[kL,hr,hq]using this));have:=np CN _ (aa e3);simp only[qx,jD,h1,h3,rG aF,zC]at this;exact .inr (.inr this);have h1:=kqu i r hr ha hw hl;obtain⟨kk,h3,h4⟩:=kact k q hq hb;obtain⟨mi,mk,e1,e2,e3⟩:=chk i k 1 kk r q h1 h3;have vH:Nat.ble 2 1=false:=rfl;have uN:Nat.beq 1 1=true:=rfl;simp only[Sq,vH,uN,h4,zC,zD,MC (show ¬ k<i by omega),Bool.or_eq_true]at e3;rcases e3 with e3 |e3 |e3;exact .inl ⟨mk,e2,e3⟩;have hc:qF ((ks.map (·.1)).take i)=qF ((ks.map (·.1)).take (k+1)):=by rw[succ _ k kk (by simp[h3])];exact Nat.eq_of_beq_eq_true e3
  have:=nomv i (k+1) (by omega) (by have:=(zG.1 hq).1;omega) hc;have h2:=(jV.all k q hq).2.2.1;rw[h2]at this;exact .inr (.inl (by simpa[kL,hr]using this.symm));have:=np CN _ (aa e3);simp only[qx,jD,h1,h3,MC (show ¬ k<i by omega),zD]at this;exact .inr (.inr this)
end
def RH.call{P:H0}{T:Tb}{aB r:V Oper}{o:Oper}{tm:V U}{X:Sg}{bD:V RK}{K:V RK->V U->Sg->Prop}{f:FuncId}{args:V U}{u:U}(hw:cX aB tm o=some true)(hc:kN T tm o.op=some (f,args))(lN:b7 P f args X (fun u' X'=>u'=u/\X'=X))
  (h:RH P T aB r (eS tm o.dst u) X ((2,⟨tm,o,u,true,false,X,X⟩)::bD) K):RH P T aB (o::r) tm X bD K:=.inr (.inr (.inl ⟨hw,f,args,u,hc,lN,h⟩))
def RH.callM{P:H0}{T:Tb}{aB r:V Oper}{o:Oper}{tm:V U}{X X1:Sg}{bD:V RK}{K:V RK->V U->Sg->Prop}{f:FuncId}{args:V U}{u:U}(hw:cX aB tm o=some true)(hc:kN T tm o.op=some (f,args))(lN:b7 P f args X (fun u' X'=>u'=u/\X'=X1))
  (h:RH P T aB r (eS tm o.dst u) X1 ((3,⟨tm,o,u,true,true,X,X1⟩)::bD) K):RH P T aB (o::r) tm X bD K:=.inr (.inr (.inr (.inl ⟨hw,f,args,u,X1,hc,lN,h⟩)))
mutual
def rU(Z:Nat->Nat):U->U
 |.ptr k st off=>.ptr (Z k) st off|.sl k off n c=>.sl (Z k) off n c
 |.vl k st off n=>.vl (Z k) st off n|.map k=>.map (Z k)
 |.iptr l=>.iptr (iQ Z l)|.isl t l=>.isl t (yK Z l)
 |.fn f a b=>.fn f (iQ Z a) (iQ Z b)|.agg l=>.agg (iQ Z l)
 |.tup l=>.tup (iQ Z l)|u=>u
def iQ(Z:Nat->Nat):V U->V U
 |[]=>[]|u::l=>rU Z u::iQ Z l
def yK(Z:Nat->Nat):V (V U)->V (V U)
 |[]=>[]|c::l=>iQ Z c::yK Z l
end
def FC(Z:Nat->Nat):∀l,(iQ Z l).length=l.length
 |[]=>rfl|u::l=>by simp[iQ,FC Z l]
def Fp(Z:Nat->Nat):∀l,(yK Z l).length=l.length
 |[]=>rfl|u::l=>by simp[yK,Fp Z l]
def Sr(Z:Nat->Nat)(u:U):okC (rU Z u)=okC u:=by cases u<;>simp[rU,okC]
def IW(Z:Nat->Nat):∀l,okL (iQ Z l)=okL l
 |[]=>rfl|u::l=>by simp[iQ,okL,Sr,IW Z l]
structure VN(n:Nat)(Z:Nat->Nat)(x y:Cx):Prop where
 ptr:∀k st off v,k<n->aD x (.ptr k st off) v->aD y (.ptr (Z k) st off) v
 sl:∀k off m c v,k<n->aD x (.sl k off m c) v->aD y (.sl (Z k) off m c) v
 vl:∀k st off m v,k<n->aD x (.vl k st off m) v->aD y (.vl (Z k) st off m) v
 map:∀k v,k<n->aD x (.map k) v->aD y (.map (Z k)) v
 imm:∀i row e,lk x.s.h i=some (.inl (row,e,1))->lk y.s.h i=some (.inl (row,e,1))
mutual
def aD.leaf{n:Nat}{Z:Nat->Nat}{x y:Cx}(h:VN n Z x y):(u:U)->(v:O)->bA n u->aD x u v->aD y (rU Z u) v
 |.junk,v,_,_=>by simp[rU,aD]
 |.bool b,v,_,hr=>by simpa[rU,aD]using hr
 |.int k z,v,_,hr=>by simpa[rU,aD]using hr
 |.str l,v,_,hr=>by simpa[rU,aD]using hr
 |.nilp,v,_,hr=>by simpa[rU,aD]using hr
 |.ptr k st off,v,hb,hr=>h.ptr k st off v (by simpa[bA]using hb) hr|.iptr l,v,hb,hr=>by simp only[rU,aD]at*;obtain⟨i,off,row,e,h1,h2,h3,h4⟩:=hr;exact⟨i,off,row,e,h1,h.imm _ _ _ h2,cO.leaf h l _ (by simpa[bA]using hb) h3,by rw[IW];exact h4⟩
 |.nils,v,_,hr=>by simpa[rU,aD]using hr
 |.sl k off m c,v,hb,hr=>h.sl k off m c v (by simpa[bA]using hb) hr|.vl k st off m,v,hb,hr=>h.vl k st off m v (by simpa[bA]using hb) hr
 |.isl t l,v,hb,hr=>by simp only[rU,aD]at*;rcases hr with⟨rfl,hr⟩|⟨i,off,c,h1,h2,h3⟩;exact .inl ⟨rfl,hr⟩;rw[Fp];refine .inr ⟨i,off,c,h1,h2,?_⟩;rcases h3 with rfl |⟨row,e,sz,g1,g2,g3⟩;exact .inl rfl;exact .inr ⟨row,e,sz,h.imm _ _ _ g1,iX.leaf h l _ (by simpa[bA]using hb) g2,g3⟩
 |.nilm,v,_,hr=>by simpa[rU,aD]using hr
 |.map k,v,hb,hr=>h.map k v (by simpa[bA]using hb) hr|.fn f a b,v,hb,hr=>by simp[rU,aD]at*;have⟨va,vb,h1,h2,h3,h4,h5⟩:=hr;simp[bA]at hb;exact⟨va,vb,h1,cO.leaf h a _ hb.1 h2,by rw[FC];exact h3,cO.leaf h b _ hb.2 h4,by rw[FC];exact h5⟩
 |.nilf,v,_,hr=>by simpa[rU,aD]using hr
 |.nili,v,_,hr=>by simpa[rU,aD]using hr
 |.agg l,v,hb,hr=>by simp[rU,aD]at*;have⟨vs,h1,h2,h3,h4⟩:=hr;exact⟨vs,h1,cO.leaf h l _ (by simpa[bA]using hb) h2,by rw[FC];exact h3,by rw[IW];exact h4⟩
 |.tup l,v,hb,hr=>by simp[rU,aD]at*;have⟨vs,h1,h2,h3⟩:=hr;exact⟨vs,h1,cO.leaf h l _ (by simpa[bA]using hb) h2,by rw[FC];exact h3⟩
def cO.leaf{n:Nat}{Z:Nat->Nat}{x y:Cx}(h:VN n Z x y):(l:V U)->(vs:V O)->aM n l->cO x l vs->cO y (iQ Z l) vs
 |[],vs,_,_=>by simp[iQ,cO]
 |u::l,[],_,hr=>by simp[cO]at hr
 |u::l,v::vs,hb,hr=>by simp[iQ,cO,aM]at*;exact⟨aD.leaf h u v hb.1 hr.1,cO.leaf h l vs hb.2 hr.2⟩
def iX.leaf{n sz:Nat}{Z:Nat->Nat}{x y:Cx}(h:VN n Z x y):(l:V (V U))->(vs:V O)->mR n l->iX x sz l vs->iX y sz (yK Z l) vs
 |[],vs,_,_=>by simp[yK,iX]
 |c::l,vs,hb,hr=>by simp[yK,iX,mR]at*;exact⟨by rw[FC];exact hr.1,by rw[IW];exact hr.2.1,cO.leaf h c vs hb.1 hr.2.2.1,iX.leaf h l _ hb.2 hr.2.2.2⟩
end
def rM(Z:Nat->Nat)(e:ME):ME:=⟨rU Z e.key,rU Z e.val,e.born⟩
def rB(Z:Nat->Nat):B->B
 |.row l e=>.row (iQ Z l) e|.vec l e sz st=>.vec (iQ Z l) e sz st
 |.map es cl=>.map (es.map (rM Z)) cl
def qh(Z:Nat->Nat)(b:B):(rB Z b).st=b.st:=by cases b<;>rfl
mutual
def P'{n:Nat}{Z κ:Nat->Nat}(h:∀k,k<n->κ (Z k)=k):(u:U)->bA n u->rU κ (rU Z u)=u
 |.ptr k _ _,hb=>by simp[bA]at hb;simp[rU,h k hb]
 |.sl k _ _ _,hb=>by simp[bA]at hb;simp[rU,h k hb]
 |.vl k _ _ _,hb=>by simp[bA]at hb;simp[rU,h k hb]
 |.map k,hb=>by simp[bA]at hb;simp[rU,h k hb]
 |.iptr l,hb=>by simp[bA]at hb;simp[rU,XZ h l hb]
 |.isl t l,hb=>by simp[bA]at hb;simp[rU,z0z h l hb]
 |.fn f a b,hb=>by simp[bA]at hb;simp[rU,XZ h a hb.1,XZ h b hb.2]
 |.agg l,hb=>by simp[bA]at hb;simp[rU,XZ h l hb]
 |.tup l,hb=>by simp[bA]at hb;simp[rU,XZ h l hb]
 |.junk,_=>rfl|.bool _,_=>rfl
 |.int _ _,_=>rfl|.str _,_=>rfl
 |.nilp,_=>rfl|.nils,_=>rfl
 |.nilm,_=>rfl|.nilf,_=>rfl
 |.nili,_=>rfl
def XZ{n:Nat}{Z κ:Nat->Nat}(h:∀k,k<n->κ (Z k)=k):(l:V U)->aM n l->iQ κ (iQ Z l)=l
 |[],_=>rfl|u::l,hb=>by simp[aM]at hb;simp[iQ,P' h u hb.1,XZ h l hb.2]
def z0z{n:Nat}{Z κ:Nat->Nat}(h:∀k,k<n->κ (Z k)=k):(l:V (V U))->mR n l->yK κ (yK Z l)=l
 |[],_=>rfl|c::l,hb=>by simp[mR]at hb;simp[yK,XZ h c hb.1,z0z h l hb.2]
end
def bB.leaf{n:Nat}{Z:Nat->Nat}{x y:Cx}(h:VN n Z x y){l:V U}{vs:V O}(hb:aM n l)(hr:bB x l vs):bB y (iQ Z l) vs:=⟨cO.leaf h l vs hb hr.1,by rw[FC];exact hr.2⟩
def oB.leaf{n:Nat}{Z:Nat->Nat}{x y:Cx}(h:VN n Z x y){k j:Nat}{b:B}(hb:BelB n b)(k8:y.Y j=x.Y k)(hl:∀i c,x.Y k=some i->lk x.s.h i=some c->lk y.s.h i=some c)(hB:oB x k b):oB y j (rB Z b):=by
 cases b with
 |row l e=>have⟨k1,i,l',e1,e2,e3⟩:=hB;exact⟨by rw[IW];exact k1,i,l',by rw[k8,e1],hl _ _ e1 e2,bB.leaf h hb e3⟩
 |vec l e sz st=>have⟨k1,k2,h3⟩:=hB;refine⟨by rw[IW];exact k1,k2,?_⟩;rcases h3 with⟨rfl,h4⟩|⟨i,l',e1,e2,e3⟩;exact .inl ⟨rfl,by rw[k8,h4]⟩;exact .inr ⟨i,l',by rw[k8,e1],hl _ _ e1 e2,bB.leaf h hb e3⟩
 |map es cl=>have⟨i,es',e1,e2,e3,e4⟩:=hB;refine⟨i,es',by rw[k8,e1],hl _ _ e1 e2,by simpa using e3,fun j e he=>?_⟩;simp only[List.getElem?_map]at he;rcases hj:es[j]? with _|e0;rw[hj]at he;cases he;rw[hj]at he;simp[zM,zA]at he;subst he;have⟨v,q1,q2,q3,q4⟩:=e4 j e0 hj;have Wg:=hb e0 (zX hj);exact⟨v,q1,aD.leaf h _ _ Wg.1 q2,aD.leaf h _ _ Wg.2 q3,q4⟩
structure RO(n:Nat)(Z:Nat->Nat)(x y:Cx):Prop where
 ptr:∀k st off v,k<n->aD x (.ptr (Z k) st off) v->aD y (.ptr k st off) v
 sl:∀k off m c v,k<n->aD x (.sl (Z k) off m c) v->aD y (.sl k off m c) v
 vl:∀k st off m v,k<n->aD x (.vl (Z k) st off m) v->aD y (.vl k st off m) v
 map:∀k v,k<n->aD x (.map (Z k)) v->aD y (.map k) v
 imm:∀i row e,lk x.s.h i=some (.inl (row,e,1))->lk y.s.h i=some (.inl (row,e,1))
mutual
def aD.unleaf{n:Nat}{Z:Nat->Nat}{x y:Cx}(h:RO n Z x y):(u:U)->(v:O)->bA n u->aD x (rU Z u) v->aD y u v
 |.junk,v,_,_=>by simp[aD]
 |.bool b,v,_,hr=>by simpa[rU,aD]using hr
 |.int k z,v,_,hr=>by simpa[rU,aD]using hr
 |.str l,v,_,hr=>by simpa[rU,aD]using hr
 |.nilp,v,_,hr=>by simpa[rU,aD]using hr
 |.ptr k st off,v,hb,hr=>h.ptr k st off v (by simpa[bA]using hb) hr|.iptr l,v,hb,hr=>by simp only[rU,aD]at*;obtain⟨i,off,row,e,h1,h2,h3,h4⟩:=hr;exact⟨i,off,row,e,h1,h.imm _ _ _ h2,cO.unleaf h l _ (by simpa[bA]using hb) h3,by rw[IW]at h4;exact h4⟩
 |.nils,v,_,hr=>by simpa[rU,aD]using hr
 |.sl k off m c,v,hb,hr=>h.sl k off m c v (by simpa[bA]using hb) hr|.vl k st off m,v,hb,hr=>h.vl k st off m v (by simpa[bA]using hb) hr
 |.isl t l,v,hb,hr=>by simp only[rU,aD]at*;rcases hr with⟨h0,hr⟩|⟨i,off,c,h1,h2,h3⟩;exact .inl ⟨List.eq_nil_of_length_eq_zero (by rw[<-Fp Z,h0];rfl),hr⟩;rw[Fp]at h1 h2;refine .inr ⟨i,off,c,h1,h2,?_⟩;rcases h3 with h3 |⟨row,e,sz,g1,g2,g3⟩;exact .inl (List.eq_nil_of_length_eq_zero (by rw[<-Fp Z,h3];rfl));rw[Fp]at g3;exact .inr ⟨row,e,sz,h.imm _ _ _ g1,iX.unleaf h l _ (by simpa[bA]using hb) g2,g3⟩
 |.nilm,v,_,hr=>by simpa[rU,aD]using hr
 |.map k,v,hb,hr=>h.map k v (by simpa[bA]using hb) hr|.fn f a b,v,hb,hr=>by simp[rU,aD]at*;have⟨va,vb,h1,h2,h3,h4,h5⟩:=hr;simp[bA]at hb;rw[FC]at h3 h5;exact⟨va,vb,h1,cO.unleaf h a _ hb.1 h2,h3,cO.unleaf h b _ hb.2 h4,h5⟩
 |.nilf,v,_,hr=>by simpa[rU,aD]using hr
 |.nili,v,_,hr=>by simpa[rU,aD]using hr
 |.agg l,v,hb,hr=>by simp[rU,aD]at*;have⟨vs,h1,h2,h3,h4⟩:=hr;rw[FC]at h3;rw[IW]at h4;exact⟨vs,h1,cO.unleaf h l _ (by simpa[bA]using hb) h2,h3,h4⟩
 |.tup l,v,hb,hr=>by simp[rU,aD]at*;have⟨vs,h1,h2,h3⟩:=hr;rw[FC]at h3;exact⟨vs,h1,cO.unleaf h l _ (by simpa[bA]using hb) h2,h3⟩
def cO.unleaf{n:Nat}{Z:Nat->Nat}{x y:Cx}(h:RO n Z x y):(l:V U)->(vs:V O)->aM n l->cO x (iQ Z l) vs->cO y l vs
 |[],vs,_,_=>by simp[cO]
 |u::l,[],_,hr=>by simp[iQ,cO]at hr
 |u::l,v::vs,hb,hr=>by simp[iQ,cO,aM]at*;exact⟨aD.unleaf h u v hb.1 hr.1,cO.unleaf h l vs hb.2 hr.2⟩
def iX.unleaf{n sz:Nat}{Z:Nat->Nat}{x y:Cx}(h:RO n Z x y):(l:V (V U))->(vs:V O)->mR n l->iX x sz (yK Z l) vs->iX y sz l vs
 |[],vs,_,_=>by simp[iX]
 |c::l,vs,hb,hr=>by simp[yK,iX,mR]at*;exact⟨by rw[<-FC Z];exact hr.1,by rw[<-IW Z];exact hr.2.1,cO.unleaf h c vs hb.1 hr.2.2.1,iX.unleaf h l _ hb.2 hr.2.2.2⟩
end
def bB.unleaf{n:Nat}{Z:Nat->Nat}{x y:Cx}(h:RO n Z x y){l:V U}{vs:V O}(hb:aM n l)(hr:bB x (iQ Z l) vs):bB y l vs:=⟨cO.unleaf h l vs hb hr.1,by rw[<-FC Z];exact hr.2⟩
def oB.unleaf{n:Nat}{Z:Nat->Nat}{x y:Cx}(h:RO n Z x y){k j:Nat}{b:B}(hb:BelB n b)(k8:y.Y j=x.Y k)(hl:∀i c,x.Y k=some i->lk x.s.h i=some c->lk y.s.h i=some c)(hB:oB x k (rB Z b)):oB y j b:=by
 cases b with
 |row l e=>have⟨k1,i,l',e1,e2,e3⟩:=hB;exact⟨by rw[IW]at k1;exact k1,i,l',by rw[k8,e1],hl _ _ e1 e2,bB.unleaf h hb e3⟩
 |vec l e sz st=>have⟨k1,k2,h3⟩:=hB;rw[IW]at k1;refine⟨k1,k2,?_⟩;rcases h3 with⟨h3,h4⟩|⟨i,l',e1,e2,e3⟩;exact .inl ⟨List.eq_nil_of_length_eq_zero (by rw[<-FC Z,h3];rfl),by rw[k8,h4]⟩;exact .inr ⟨i,l',by rw[k8,e1],hl _ _ e1 e2,bB.unleaf h hb e3⟩
 |map es cl=>
  have⟨i,es',e1,e2,e3,e4⟩:=hB;refine⟨i,es',by rw[k8,e1],hl _ _ e1 e2,by simpa using e3,fun j e he=>?_⟩;have hj:(es.map (rM Z))[j]? = some (rM Z e):=by simp[he]
  have⟨v,q1,q2,q3,q4⟩:=e4 j _ hj;have Wg:=hb e (zX he);exact⟨v,q1,aD.unleaf h _ _ Wg.1 q2,aD.unleaf h _ _ Wg.2 q3,q4⟩
def ix:V Nat->Nat->Nat->M Nat
 |[],_,_=>none|a::l,k,i=>cond (Nat.beq a k) (some i) (ix l k (i+1))
def nm:V Nat->Nat->Nat->Nat
 |[],nx,j=>nx+j|a::_,_,0=>a
 |_::l,nx,j+1=>nm l nx j
def IX:∀(ns:V Nat)(nx j:Nat),j<ns.length->∃h:j<ns.length,nm ns nx j=ns[j]
 |a::l,nx,0,h=>⟨h,rfl⟩|a::l,nx,j+1,h=>by have⟨h',e⟩:=IX l nx j (by simpa using h);exact⟨h,by simp[nm,e]⟩
def M7:∀(ns:V Nat)(nx j:Nat),ns.length<=j->nm ns nx j=nx+(j-ns.length)
 |[],nx,j,_=>by simp[nm]
 |a::l,nx,0,h=>by simp at h
 |a::l,nx,j+1,h=>by simp only[nm,M7 l nx j (by simpa using h)];simp
def zbu{ns:V Nat}{nx:Nat}(E9:ns.Nodup)(aF:∀k∈ns,k<nx){i j:Nat}(h:nm ns nx i=nm ns nx j):i=j:=by by_cases hi:i<ns.length;have⟨_,e1⟩:=IX ns nx i hi;by_cases hj:j<ns.length;have⟨_,e2⟩:=IX ns nx j hj;rw[e1,e2]at h;exact(List.getElem_inj E9).1 h;rw[e1,M7 ns nx j (by omega)]at h;have:=aF _ (List.getElem_mem hi);omega;rw[M7 ns nx i (by omega)]at h;by_cases hj:j<ns.length;have⟨_,e2⟩:=IX ns nx j hj;rw[e2]at h;have:=aF _ (List.getElem_mem hj);omega;rw[M7 ns nx j (by omega)]at h;omega
def DA:V Nat->Nat->D1
 |[],_=>false|a::l,k=>cond (Nat.beq a k) true (DA l k)
def xq:∀(l:V Nat)(k:Nat),DA l k=true↔k∈l
 |[],k=>by simp[DA]
 |a::l,k=>by simp[DA,beq_eq,zI];by_cases e:a=k;simp[e];have:¬ k=a:=fun h=>e h.symm;simp[e,this,xq l k]
def AW(ns:V Nat)(nx:Nat):V (Nat×B)->V (Nat×B)
 |[]=>[]|(j,b)::h=>(nm ns nx j,rB (nm ns nx) b)::AW ns nx h
def IZ(ns:V Nat):V (Nat×B)->V (Nat×B)
 |[]=>[]|(k,b)::h=>cond (DA ns k) (IZ ns h) ((k,b)::IZ ns h)
def ae{ns:V Nat}{nx:Nat}(hi:∀i j,nm ns nx i=nm ns nx j->i=j):∀(h:V (Nat×B))(j:Nat),gt (AW ns nx h) (nm ns nx j)=(gt h j).map (rB (nm ns nx))
 |[],j=>by simp[AW,gt]
 |(i,b)::h,j=>by simp[AW,eN,ae hi h j];by_cases e:i=j;simp[e];have:¬ nm ns nx i=nm ns nx j:=fun h=>e (hi _ _ h);simp[e,this]
def qom{ns:V Nat}{nx:Nat}:∀(h:V (Nat×B))(k:Nat),(∀j,nm ns nx j≠k)->gt (AW ns nx h) k=none
 |[],k,_=>by simp[AW,gt]
 |(i,b)::h,k,hk=>by simp[AW,eN,hk i,qom h k hk]
def Nw(ns:V Nat):∀(h:V (Nat×B))(k:Nat),gt (IZ ns h) k=if k∈ns then none else gt h k
 |[],k=>by simp[IZ,gt]
 |(j,b)::h,k=>by
  have ih:=Nw ns h k;simp[IZ];cases hj:DA ns j with
  |true=>have CU:=(xq ns j).1 hj;simp[zC,ih,eN];by_cases e:j=k;subst e;simp[CU];simp[e]|false=>
   have CU:¬ j∈ns:=fun h=>by rw[(xq ns j).2 h]at hj;cases hj
   simp[zD,eN,ih];by_cases e:j=k;subst e;simp[CU];simp[e]
def ig(a b:V (Nat×B))(k:Nat):gt (a++b) k=match gt a k with |some c=>some c |none=>gt b k:=by induction a with|nil=>simp[gt]|cons p a ih=>have⟨j,c⟩:=p;simp[List.cons_append,eN,ih];by_cases e:j=k<;>simp[e]
def Xh(ns:V Nat)(X Q6:Sg):Sg:=⟨AW ns X.nx Q6.h++IZ ns X.h,X.nx+(Q6.nx-ns.length)⟩
mutual
def zt:(u:U)->rU id u=u
 |.ptr k _ _=>by simp[rU]
 |.sl k _ _ _=>by simp[rU]
 |.vl k _ _ _=>by simp[rU]
 |.map k=>by simp[rU]
 |.iptr l=>by simp[rU,VM l]
 |.isl t l=>by simp[rU,Md l]
 |.fn f a b=>by simp[rU,VM a,VM b]
 |.agg l=>by simp[rU,VM l]
 |.tup l=>by simp[rU,VM l]
 |.junk=>rfl|.bool _=>rfl
 |.int _ _=>rfl|.str _=>rfl
 |.nilp=>rfl|.nils=>rfl
 |.nilm=>rfl|.nilf=>rfl
 |.nili=>rfl
def VM:(l:V U)->iQ id l=l
 |[]=>rfl|u::l=>by simp[iQ,zt u,VM l]
def Md:(l:V (V U))->yK id l=l
 |[]=>rfl|c::l=>by simp[yK,VM c,Md l]
end
def oB.keep{x y:Cx}{k:Nat}{b:B}(h:oB x k b)(hm:Ke x.X.nx x y)(k8:y.Y k=x.Y k)(hl:∀i c,x.Y k=some i->lk x.s.h i=some c->lk y.s.h i=some c):oB y k b:=by
 cases b with
 |row l e=>have⟨k1,i,l',e1,e2,e3⟩:=h;exact⟨k1,i,l',by rw[k8,e1],hl _ _ e1 e2,hm.E e3.bel e3⟩
 |vec l e sz st=>have⟨k1,k2,h3⟩:=h;refine⟨k1,k2,?_⟩;rcases h3 with⟨h3,h4⟩|⟨i,l',e1,e2,e3⟩;exact .inl ⟨h3,by rw[k8,h4]⟩;exact .inr ⟨i,l',by rw[k8,e1],hl _ _ e1 e2,hm.E e3.bel e3⟩
 |map es cl=>have⟨i,es',e1,e2,e3⟩:=h;refine⟨i,es',by rw[k8,e1],hl _ _ e1 e2,e3.1,fun j e he=>?_⟩;have⟨v,q1,q2,q3,q4⟩:=e3.2 j e he;exact⟨v,q1,hm _ _ (aD.bel _ _ q2) q2,hm _ _ (aD.bel _ _ q3) q3,q4⟩
def oB.row_at{x:Cx}{k i:Nat}{b:B}(h:oB x k b)(hi:x.Y k=some i):∃c,lk x.s.h i=some c:=by
 cases b with
 |row l e=>have⟨_,i',l',e1,e2,_⟩:=h;rw[hi]at e1;cases e1;exact⟨_,e2⟩
 |vec l e sz st=>have⟨_,_,h3⟩:=h;rcases h3 with⟨_,h4⟩|⟨i',l',e1,e2,_⟩;rw[hi]at h4;cases h4;rw[hi]at e1;cases e1;exact⟨_,e2⟩
 |map es cl=>have⟨i',es',e1,e2,_⟩:=h;rw[hi]at e1;cases e1;exact⟨_,e2⟩
def b7.frame{P:H0}{f:FuncId}{args:V U}{h0:V (Nat×B)}{R:U->Sg->Prop}(ns:V Nat)(h:b7 P f args ⟨h0,ns.length⟩ R)(X:Sg)(E9:ns.Nodup)(aF:∀k∈ns,k<X.nx)(ha:aM ns.length args)
  (oN:∀k b,gt h0 k=some b->k<ns.length/\BelB ns.length b/\gt X.h (nm ns X.nx k)=some (rB (nm ns X.nx) b)):
  b7 P f (iQ (nm ns X.nx) args) X (fun u X'=>∃u0 Q6,R u0 Q6/\ns.length<=Q6.nx/\u=rU (nm ns X.nx) u0/\X'=Xh ns X Q6):=fun F x vs m w cargs hx hh k9 he dR bW=>by
 subst hx;have Vi:∀i j,nm ns x.X.nx i=nm ns x.X.nx j->i=j:=fun i j h=>zbu E9 aF h;have A9:∀k,k∈ns->∃j,j<ns.length/\nm ns x.X.nx j=k:=fun k hk=>by have⟨j,hj,e⟩:=List.getElem_of_mem hk;exact⟨j,hj,by rw[(IX ns x.X.nx j hj).2,e]⟩
 have Uw:∀j,j<ns.length->nm ns x.X.nx j<x.X.nx:=fun j hj=>by rw[(IX ns x.X.nx j hj).2];exact aF _ (List.getElem_mem hj)
 let x0:Cx:=⟨fun k=>if k<ns.length then x.Y (nm ns x.X.nx k)else none,⟨h0,ns.length⟩,x.s⟩
 have FT:∀k,k<ns.length->x0.Y k=x.Y (nm ns x.X.nx k):=fun k hk=>by simp[x0,hk]
 have Ag:∀k st (p:M Nat->Prop),k<ns.length->Ref x (nm ns x.X.nx k) st p->Ref x0 k st p:=fun k st p hk ⟨_,h2⟩=>⟨hk,fun b hb=>by have⟨_,_,hg⟩:=oN k b hb;have:=h2 _ hg;rw[qh]at this;rw[FT k hk];exact this⟩;have Iv:RO ns.length (nm ns x.X.nx) x x0:={
  ptr:=fun k st off v hk hr=>by simp[aD]at*;exact⟨hr.1,Ag k st _ hk hr.2⟩
  sl:=fun k off m c v hk hr=>by simp[aD]at*;exact⟨hr.1,Ag k 0 _ hk hr.2⟩
  map:=fun k v hk hr=>by simp[aD]at*;exact⟨hr.1,Ag k 0 _ hk hr.2⟩
  vl:=fun k st off m v hk hr=>by
   simp[aD]at*;have⟨g1,g2,g3⟩:=hr;refine⟨g1,hk,fun b hb=>?_⟩;have⟨_,_,hg⟩:=oN k b hb;have⟨g4,g5⟩:=g3 _ hg;rw[qh]at g4 g5;refine⟨g4,fun e=>?_⟩;have⟨l,e',sz,e7,e8⟩:=g5 e;rw[FT k hk];cases b with
   |vec l0 e0 Ly st0=>simp[rB,B.vec.injEq]at e7;have⟨_,rfl,rfl,rfl⟩:=e7;exact⟨l0,_,_,rfl,e8⟩
   |row _ _=>simp[rB]at e7|map _ _=>simp[rB]at e7
  imm:=fun i row e hl=>hl }
 have hh0:jY x0:=⟨fun k b hb=>by have⟨h1,h2,h3⟩:=oN k b hb;exact⟨h1,oB.unleaf Iv h2 (FT k h1) (fun i c _ hl=>hl) (hh.ok _ _ h3).2⟩,
  fun k k' b b' i hb cP hi kY=>by have⟨h1,h2,h3⟩:=oN k b hb;have⟨y6,HP,Bp⟩:=oN k' b' cP;rw[FT k h1]at hi;rw[FT k' y6]at kY;exact Vi _ _ (hh.inj _ _ _ _ i h3 Bp hi kY),
  hh.bd⟩
 let F0:Nat->lP->Prop:=fun i b=>lk x.s.h i=some b/\∀k c,gt h0 k=some c->x.Y (nm ns x.X.nx k)≠some i
 have hfr0:Fr F0 x0:=fun i b J=>⟨J.1,fun k c hc=>by rw[FT k (oN k c hc).1];exact J.2 k c hc⟩;refine(h F0 x0 vs m w cargs rfl hh0 hfr0 (bB.unleaf Iv ha he) dR bW).mono ?_;rintro e w₁ ⟨y0,aK,u0,v,cv,rfl,hR,aS,fU,Vm,xL,xG,eC,lL⟩;have oO:ns.length<=y0.X.nx:=lL;have Vk:∀k,k<x.X.nx->¬ k∈ns->∀j,nm ns x.X.nx j≠k:=fun k hk hn j e=>by by_cases hj:j<ns.length;have⟨_,e1⟩:=IX ns x.X.nx j hj;rw[e1]at e;exact hn (e ▸ List.getElem_mem hj);rw[M7 ns x.X.nx j (by omega)]at e;omega
 let inv:Nat->M Nat:=fun k=>if k<x.X.nx then ix ns k 0 else some (ns.length+(k-x.X.nx))
 let y:Cx:=⟨fun k=>if k∈ns\/x.X.nx<=k then(match inv k with |some j=>y0.Y j |none=>none)else x.Y k,Xh ns x.X y0.X,y0.s⟩
 have hixg:∀(l:V Nat)(j i:Nat),l.Nodup->(hj:j<l.length)->ix l l[j] i=some (i+j):=by
  intro l;induction l with
  |nil=>intro j i _ hj;simp at hj|cons a l ih=>
   intro j i E9 hj;cases j with
   |zero=>simp[ix,beq_eq]|succ j=>have d5:¬ a=l[j]'(by simpa using hj):=fun h=>(List.nodup_cons.1 E9).1 (h ▸ List.getElem_mem _);simp[List.getElem_cons_succ,ix,beq_eq,d5,yB,zD];rw[ih j (i+1) (List.nodup_cons.1 E9).2 (by simpa using hj)];congr 1;omega
 have Aw:∀j,inv (nm ns x.X.nx j)=some j:=fun j=>by
  by_cases hj:j<ns.length;have h1:=Uw j hj;have⟨_,e1⟩:=IX ns x.X.nx j hj;simp[inv,h1,if_true];rw[e1,hixg ns j 0 E9 hj];simp;have e1:=M7 ns x.X.nx j (by omega);have h1:¬ nm ns x.X.nx j<x.X.nx:=by omega
  simp[inv,h1,if_false,zA];omega
 have FS:∀j,y.Y (nm ns x.X.nx j)=y0.Y j:=fun j=>by
  have h1:nm ns x.X.nx j∈ns\/x.X.nx<=nm ns x.X.nx j:=by by_cases hj:j<ns.length;have⟨_,e1⟩:=IX ns x.X.nx j hj;exact .inl (by rw[e1];exact List.getElem_mem hj);rw[M7 ns x.X.nx j (by omega)];exact .inr (by omega)
  simp[y,h1,if_true,Aw]
 have CE:∀k,k<x.X.nx->¬ k∈ns->y.Y k=x.Y k:=fun k hk hn=>by
  have h1:¬ (k∈ns\/x.X.nx<=k):=by rintro(h |h);exact hn h;omega
  simp[y,h1,if_false]
 have PA:∀j,gt y.X.h (nm ns x.X.nx j)=(gt y0.X.h j).map (rB (nm ns x.X.nx)):=fun j=>by
  show gt (AW ns x.X.nx y0.X.h++IZ ns x.X.h) _=_;rw[ig,ae Vi];cases hg:gt y0.X.h j with
  |some b=>rfl|none=>simp[Option.map_none];rw[Nw];split;rfl;rename_i hn;rcases G1:gt x.X.h (nm ns x.X.nx j)with _|b;rfl;have:=(hh.ok _ _ G1).1;exact absurd rfl (Vk _ this hn j)
 have hgn:∀k,k<x.X.nx->¬ k∈ns->gt y.X.h k=gt x.X.h k:=fun k hk hn=>by show gt (AW ns x.X.nx y0.X.h++IZ ns x.X.h) _=_;rw[ig,qom _ _ (Vk k hk hn),Nw,if_neg hn]
 have AF:∀k b,gt y.X.h k=some b->(∃j b0,k=nm ns x.X.nx j/\gt y0.X.h j=some b0/\b=rB (nm ns x.X.nx) b0)\/(k<x.X.nx/\¬ k∈ns/\gt x.X.h k=some b):=fun k b hb=>by
  by_cases hk:∃j,nm ns x.X.nx j=k;obtain⟨j,rfl⟩:=hk;rw[PA]at hb;rcases hg:gt y0.X.h j with _|b0;rw[hg]at hb;cases hb;rw[hg]at hb;simp at hb;exact .inl ⟨j,b0,rfl,hg,hb.symm⟩;have vF:∀j,nm ns x.X.nx j≠k:=fun j e=>hk ⟨j,e⟩
  have xK:k<x.X.nx:=by rcases Nat.lt_or_ge k x.X.nx with h |h;exact h;exact absurd (by rw[M7 ns x.X.nx _ (by omega)];omega) (vF (ns.length+(k-x.X.nx)))
  have hn:¬ k∈ns:=fun h=>by have⟨j,_,e⟩:=A9 k h;exact vF j e
  rw[hgn k xK hn]at hb;exact .inr ⟨xK,hn,hb⟩
 have tM:∀k,k<x.X.nx->k∈ns\/¬ k∈ns:=fun k _=>Classical.em _;have JW:y.X.nx=x.X.nx+(y0.X.nx-ns.length):=rfl;have K7:∀j,j<y0.X.nx->nm ns x.X.nx j<y.X.nx:=fun j hj=>by rw[JW];by_cases CU:j<ns.length;have:=Uw j CU;omega;rw[M7 ns x.X.nx j (by omega)];omega
 have K3:∀k st (p:M Nat->Prop),Ref y0 k st p->Ref y (nm ns x.X.nx k) st p:=fun k st p ⟨h1,h2⟩=>⟨K7 k h1,fun b hb=>by rw[PA]at hb;rcases hg:gt y0.X.h k with _|b0;rw[hg]at hb;cases hb;rw[hg]at hb;simp[zM,zA]at hb;subst hb;rw[qh,FS];exact h2 _ hg⟩;have wH:VN y0.X.nx (nm ns x.X.nx) y0 y:={
  ptr:=fun k st off v _ hr=>by simp[aD]at*;exact⟨hr.1,K3 k st _ hr.2⟩
  sl:=fun k off m c v _ hr=>by simp[aD]at*;exact⟨hr.1,K3 k 0 _ hr.2⟩
  map:=fun k v _ hr=>by simp[aD]at*;exact⟨hr.1,K3 k 0 _ hr.2⟩
  vl:=fun k st off m v _ hr=>by simp[aD]at*;have⟨g1,g2,g3⟩:=hr;refine⟨g1,K7 k g2,fun b hb=>?_⟩;rw[PA]at hb;rcases hg:gt y0.X.h k with _|b0;rw[hg]at hb;cases hb;rw[hg]at hb;simp[zM,zA]at hb;subst hb;rw[qh,FS];have⟨g4,g5⟩:=g3 _ hg;refine⟨g4,fun e=>?_⟩;obtain⟨l,e',sz,rfl,e8⟩:=g5 e;exact⟨_,e',sz,rfl,e8⟩
  imm:=fun i row e hl=>hl }
 have himm:∀i row e,lk x.s.h i=some (.inl (row,e,1))->lk y.s.h i=some (.inl (row,e,1)):=fun i row e hl=>(xL i _ ⟨hl,fun k c hc k8=>(hh.ok _ _ (oN k c hc).2.2).2.not1 k8 hl⟩).1;have K4:∀k st (p:M Nat->Prop),¬ k∈ns->Ref x k st p->Ref y k st p:=fun k st p hn ⟨h1,h2⟩=>⟨by rw[JW];omega,fun b hb=>by rw[hgn k h1 hn]at hb;rw[CE k h1 hn];exact h2 b hb⟩;have hkeL:VN x.X.nx id x y:={
  ptr:=fun k st off v hk hr=>by by_cases hn:k∈ns;obtain⟨j,hj,rfl⟩:=A9 k hn;exact wH.ptr j st off v (by omega) (eC (.ptr j st off) v (by simpa[bA,x0]using hj) (Iv.ptr j st off v hj hr));simp[aD]at*;exact⟨hr.1,K4 k st _ hn hr.2⟩
  sl:=fun k off m c v hk hr=>by by_cases hn:k∈ns;obtain⟨j,hj,rfl⟩:=A9 k hn;exact wH.sl j off m c v (by omega) (eC (.sl j off m c) v (by simpa[bA,x0]using hj) (Iv.sl j off m c v hj hr));simp[aD]at*;exact⟨hr.1,K4 k 0 _ hn hr.2⟩
  map:=fun k v hk hr=>by by_cases hn:k∈ns;obtain⟨j,hj,rfl⟩:=A9 k hn;exact wH.map j v (by omega) (eC (.map j) v (by simpa[bA,x0]using hj) (Iv.map j v hj hr));simp[aD]at*;exact⟨hr.1,K4 k 0 _ hn hr.2⟩
  vl:=fun k st off m v hk hr=>by by_cases hn:k∈ns;obtain⟨j,hj,rfl⟩:=A9 k hn;exact wH.vl j st off m v (by omega) (eC (.vl j st off m) v (by simpa[bA,x0]using hj) (Iv.vl j st off m v hj hr));simp[aD,id]at*;have⟨g1,g2,g3⟩:=hr;refine⟨g1,by rw[JW];omega,fun b hb=>?_⟩;rw[hgn k g2 hn]at hb;rw[CE k g2 hn];exact g3 b hb
  imm:=himm }
 have KA:∀u,rU id u=u/\True:=fun u=>⟨(zt u),trivial⟩;have TT:Ke x.X.nx x y:=fun u v hb hr=>by
  have:=aD.leaf hkeL u v hb hr
  rwa [(KA u).1]at this
 have TQ:∀k b i c,gt x.X.h k=some b->¬ k∈ns->x.Y k=some i->lk x.s.h i=some c->F0 i c:=fun k b i c hb hn hi hl=>⟨hl,fun j d hd k8=>by
  have⟨h1,_,h3⟩:=oN j d hd;have:=hh.inj _ _ _ _ i h3 hb k8 hi;have h5:nm ns x.X.nx j∈ns:=by rw[(IX ns x.X.nx j h1).2];exact List.getElem_mem h1
  exact hn (this ▸ h5)⟩
 refine⟨y,aK,rU (nm ns x.X.nx) u0,v,cv,rfl,⟨u0,y0.X,hR,oO,rfl,rfl⟩,aS,fU,⟨fun k b hb=>?_,fun k k' b b' i hb cP hi kY=>?_,Vm.bd⟩,fun i b J=>?_,aD.leaf wH u0 v (aD.bel u0 v xG) xG,TT,by rw[JW];omega⟩;rcases AF k b hb with⟨j,b0,rfl,hg,rfl⟩|⟨h1,h2,h3⟩;have⟨g1,g2⟩:=Vm.ok j b0 hg;exact⟨K7 j g1,oB.leaf wH (g2.belB) (FS j) (fun i c _ hl=>hl) g2⟩;exact⟨by rw[JW];omega,(hh.ok k b h3).2.keep TT (CE k h1 h2) fun i c hi hl=>(xL i c (TQ k b i c h3 h2 hi hl)).1⟩;have mixed:∀k k' b b0 (j:Nat),k=nm ns x.X.nx j->gt y0.X.h j=some b0->y.Y k=some i->k'<x.X.nx->¬ k'∈ns->gt x.X.h k'=some b->y.Y k'=some i->False:=fun k k' b b0 j e hg hi h1 h2 h3 kY=>by subst e;rw[FS]at hi;rw[CE k' h1 h2]at kY;have⟨c,hc⟩:=(hh.ok k' b h3).2.row_at kY;exact(xL i c (TQ k' b i c h3 h2 kY hc)).2 j b0 hg hi
 rcases AF k b hb with⟨j,b0,e1,hg,_⟩|⟨h1,h2,h3⟩;rcases AF k' b' cP with⟨j',b0',HR,PB,_⟩|⟨y6,HP,Bp⟩;subst e1 HR;rw[FS]at hi kY;rw[Vm.inj j j' b0 b0' i hg PB hi kY];exact(mixed k k' b' b0 j e1 hg hi y6 HP Bp kY).elim;rcases AF k' b' cP with⟨j',b0',HR,PB,_⟩|⟨y6,HP,Bp⟩;exact(mixed k' k b b0' j' HR PB kY h1 h2 h3 hi).elim;rw[CE k h1 h2]at hi;rw[CE k' y6 HP]at kY;exact hh.inj k k' b b' i h3 Bp hi kY;have⟨h1,h2⟩:=k9 i b J;have hF0:F0 i b:=⟨h1,fun k c hc=>h2 _ _ (oN k c hc).2.2⟩;refine⟨(xL i b hF0).1,fun k c hc=>?_⟩;rcases AF k c hc with⟨j,b0,rfl,hg,_⟩|⟨g1,g2,g3⟩;rw[FS];exact(xL i b hF0).2 j b0 hg;rw[CE k g1 g2];exact h2 k c g3
def a8{v11 I:Type}(o:M v11)(k:v11->M I):M I:=match o with
 |some a=>k a|none=>none
variable{v11:Type}
variable{I:Type}
def aN{o:M v11}{k:v11->M I}{r:I}(h:a8 o k=some r):∃a,o=some a/\k a=some r:=by rcases o with _|a;cases h;exact⟨a,rfl,h⟩
def bS{v11 I γ:Type}{o:M v11}{k:v11->M I}{l:v11->I->M γ}{r:γ}(h:a8 o (fun a=>a8 (k a) (l a))=some r): ∃a,o=some a/\∃b,k a=some b/\l a b=some r:=by have⟨a,h1,h⟩:=aN h;have⟨b,h2,h⟩:=aN h;exact⟨a,h1,b,h2,h⟩
def lG{v11 I γ δ:Type}{o:M v11}{k:v11->M I}{l:v11->I->M γ}{p:v11->I->γ->M δ}{r:δ}(h:a8 o (fun a=>a8 (k a) (fun b=>a8 (l a b) (p a b)))=some r): ∃a,o=some a/\∃b,k a=some b/\∃c,l a b=some c/\p a b c=some r:=by have⟨a,h1,h⟩:=aN h;have⟨b,h2,c,h3,h⟩:=bS h;exact⟨a,h1,b,h2,c,h3,h⟩
def rF{v11 I γ δ ε:Type}{o:M v11}{k:v11->M I}{l:v11->I->M γ}{p:v11->I->γ->M δ}{q:v11->I->γ->δ->M ε}{r:ε}(h:a8 o (fun a=>a8 (k a) (fun b=>a8 (l a b) (fun c=>a8 (p a b c) (q a b c))))=some r): ∃a,o=some a/\∃b,k a=some b/\∃c,l a b=some c/\∃d,p a b c=some d/\q a b c d=some r:=by have⟨a,h1,h⟩:=aN h;have⟨b,h2,c,h3,d,h4,h⟩:=lG h;exact⟨a,h1,b,h2,c,h3,d,h4,h⟩
@[simp] def aP{v11 I:Type}(a:v11)(k:v11->M I):a8 (some a) k=k a:=rfl
@[simp] def gj{v11 I:Type}(k:v11->M I):a8 none k=none:=rfl
def Cy{c:D1}{a b:M I}{r:M I}(h:c=true)(J:cond c a b=r):a=r:=by subst h;exact J
def Cz{c:D1}{a b:M I}{r:M I}(h:c=false)(J:cond c a b=r):b=r:=by subst h;exact J
def aH{I:Type}(p:Prop)[Decidable p](k:M I):M I:=if p then k else none
def d7{p:Prop}[Decidable p]{k:M I}{r:I}(h:aH p k=some r):p/\k=some r:=by unfold aH at h;split at h;rename_i hp;exact⟨hp,h⟩;cases h
def z0o{p:Prop}[Decidable p]{k:M I}(h:p):aH p k=k:=by simp[aH,h]
def aC{v11:Type}(l:V v11)(i:Int):M v11:=if 0<=i/\i<(l.length:Int)then l[i.toNat]? else none
variable{l:V v11}
variable{i:Int}
variable{x:v11}
def z5t(c:v11->V U)(h:aC l i=some x):0<=i/\i<(l.length:Int)/\(l.map c)[i.toNat]? = some (c x):=by unfold aC at h;split at h;rename_i hp;exact⟨hp.1,hp.2,by simp[h]⟩;cases h
def Y3(h:aC l i=some x):0<=i/\i<(l.length:Int)/\l[i.toNat]? = some x:=by unfold aC at h;split at h;rename_i hp;exact⟨hp.1,hp.2,h⟩;cases h
def cH(i:Nat):aC l (i:Int)=l[i]?:=by unfold aC;by_cases h:i<l.length;simp[h];simp[h]
def cI(k:IntKind)(n:Int):V U:=[.int k n]
def cS(s:V Xv):V U:=[.str s]
def cL{v11:Type}(c:v11->V U)(l:V v11):V U:=[.isl false (l.map c)]
def O0(n:Nat)(k:IntKind)(x:Int):aM n (cI k x):=by simp[cI,aM,bA]
def zb2(n:Nat)(x:V Xv):aM n (cS x):=by simp[cS,aM,bA]
variable{c:v11->V U}
def Dq(n:Nat)(h:∀x,aM n (c x))(x:V v11):aM n (cL c x):=by simp[cL,aM,bA,uH c h x]
variable{sz:Nat}
def z3r(h:∀x,(c x).length=sz)(l:V v11):((l.map c).all fun r=>Nat.beq r.length sz)=true:=by simp[h]
def MI(h:∀x,(c x).length=sz)(l:V v11):((l.map c).flatten).length=l.length*sz:=by induction l with|nil=>simp|cons x l ih=>simp[zQ,List.flatten_cons,zU,ih,h,zO,Nat.succ_mul];omega
def z9m(c:v11->V U)(l k:V v11):((l++k).map c).flatten=(l.map c).flatten++(k.map c).flatten:=by simp
def zdy(h:∀x,(c x).length=sz)(l:V v11):lD (l.map c).flatten (0*sz) (l.length*sz)=some (l.map c).flatten:=by have:=MI h l;simp[lD,Nat.zero_mul,Nat.zero_add,this,zF,if_true,List.drop_zero];rw[<-this,List.take_length]
def jo(h:∀x,(c x).length=sz)(l:V v11)(i:Nat):((l.map c).flatten).drop (i*sz)=((l.drop i).map c).flatten:=by induction i generalizing l with|zero=>simp|succ i ih=>rcases l with _|⟨x,l⟩;simp;simp only[zQ,List.flatten_cons,List.drop_succ_cons,Nat.succ_mul];rw[Nat.add_comm,<-List.drop_drop,List.drop_append_of_le_length (by rw[h];exact zF _)];rw[show(c x).drop sz=[]from List.drop_eq_nil_of_le (by rw[h];exact zF _),List.nil_append,ih]
def ii(h:∀x,(c x).length=sz)(l:V v11)(i:Nat):((l.map c).flatten).take (i*sz)=((l.take i).map c).flatten:=by induction i generalizing l with|zero=>simp|succ i ih=>rcases l with _|⟨x,l⟩;simp;simp only[zQ,List.flatten_cons,List.take_succ_cons,Nat.succ_mul];rw[Nat.add_comm,List.take_append,h,zW (by rw[h];omega),Nat.add_sub_cancel_left,ih]
def qq7(h:∀x,(c x).length=sz)(l:V v11):cE sz l.length (l.map c).flatten=l.map c:=by induction l with|nil=>rfl|cons x l ih=>simp only[zQ,List.flatten_cons,zO,cE];rw[List.take_append_of_le_length (by rw[h];exact zF _),zW (by rw[h];exact zF _),List.drop_append_of_le_length (by rw[h];exact zF _),List.drop_eq_nil_of_le (by rw[h];exact zF _),List.nil_append,ih]
def z89(h:∀x,(c x).length=sz)(hx:aC l i=some x):lD (l.map c).flatten (0*sz+i.toNat*sz) sz=some (c x):=by
 have⟨h1,h2,h3⟩:=Y3 hx;have aF:i.toNat<l.length:=by omega
 have hl:=MI h l;have sL:i.toNat*sz+sz<=l.length*sz:=by rw[<-Nat.succ_mul];exact Nat.mul_le_mul_right _ (by omega)
 simp only[lD,Nat.zero_mul,Nat.zero_add,hl,sL,if_true,jo h,zA];have hd:l.drop i.toNat=x::l.drop (i.toNat+1):=by rw[List.drop_eq_getElem_cons aF];rw[List.getElem?_eq_getElem aF]at h3;rw[Option.some.inj h3]
 rw[hd];simp[zQ,List.flatten_cons];rw[List.take_append_of_le_length (by rw[h];exact zF _),zW (by rw[h];exact zF _)]
def VX(h:∀x,(c x).length=sz)(hz:0<sz)(hx:aC l i=some x):((l.map c).flatten=[])=False:=by have⟨h1,h2,h3⟩:=Y3 hx;have hl:=MI h l;simp only[eq_iff_iff,iff_false];intro e;rw[e]at hl;have:0<l.length*sz:=Nat.mul_pos (by omega) hz;simp at hl;omega
def zec(h:∀x,(c x).length=1){u:v11->U}(hu:∀x,c x=[u x])(hx:aC l i=some x):nth (l.map c).flatten (0*1+i.toNat*1)=some (u x):=by have:=z89 h hx;have⟨h1,h2⟩:=RY this;rw[hu]at h2;rw[jD];have h3:=congrArg (fun l:V U=>l[0]?) h2;simp[List.getElem?_take,List.getElem?_drop]at h3;simpa using h3.symm
def qD{v11:Type}(l:V v11)(lo hi:Int):M (V v11):=if 0<=lo/\lo<=hi/\hi<=(l.length:Int)then some ((l.take hi.toNat).drop lo.toNat)else none
def qzt(c:v11->V U)(l:V v11)(a b:Nat):qE (l.map c) a b=((l.take b).drop a).map c:=by simp[qE,List.map_drop,List.map_take]
variable{k:V v11}
variable{lo:Int}
variable{hi:Int}
def qvl(h:qD l lo hi=some k):0<=lo/\lo<=hi/\hi<=(l.length:Int)/\(l.take hi.toNat).drop lo.toNat=k:=by unfold qD at h;split at h;rename_i hp;exact⟨hp.1,hp.2.1,hp.2.2,Option.some.inj h⟩;cases h
def XP{n m:Nat}{k:IntKind}(h1:0<=hi)(h2:hi<=(n:Int)):i8 m n none (some (.int k hi)) none=some (0,hi.toNat,n):=by have:sK hi (n+1)=true:=NX ⟨by omega,by omega⟩;simp[i8,jS,this]
def wa{n:Nat}{k:IntKind}(h1:0<=lo)(h2:lo<=(n:Int)):i8 n n (some (.int k lo)) none none=some (lo.toNat,n,n):=by have:sK lo (n+1)=true:=NX ⟨by omega,by omega⟩;simp[i8,jS,this]
def R1(n0:Nat)(E:V U->Sg->Prop)(Q:Exit->V U->Sg->Prop):Exit->V U->Sg->Prop
 |.normal,tm,X=>∃tm' X',E tm' X'/\n0<=X'.nx/\Gh n0 tm X tm' X'|e,tm,X=>Q e tm X
variable{C:PG}
variable{n0:Nat}
variable{tm:V U}
variable{X:Sg}
def dJ{Q:Exit->V U->Sg->Prop}{c:Code}(E:V U->Sg->Prop)(out:∀tm X,E tm X->Q .normal tm X)(h:WPU C n0 c tm X (R1 n0 E Q)):WPU C n0 c tm X Q:=by
 apply WPU.after h;intro e GT X1 hn h;cases e with
 |normal=>have⟨jG,bT,h1,h2,h3⟩:=h;exact⟨jG,bT,h2,h3,out _ _ h1⟩
 |_=>exact⟨GT,X1,hn,Gh.refl _ _ _,h⟩
def WPU.loopK{Q:Exit->V U->Sg->Prop}{c:Code}{id:Nat}(v08:Nat->V U->Sg->Prop)(E:V U->Sg->Prop)(n:Nat)(h₀:v08 n tm X)
  (out:∀tm X,E tm X->Q .normal tm X)
  (round:∀n tm X,v08 n tm X->WPU C n0 c tm X (C1 (fun tm' X'=>∃n' jG bT,n'<n/\v08 n' jG bT/\n0<=bT.nx/\Gh n0 tm' X' jG bT) (C5 id (R1 n0 E Q)))):WPU C n0 (.block id (.loop c)) tm X Q:=by apply dJ E out;apply aU;exact WPU.loopG v08 n h₀ round
def b7.ghost{P:H0}{f:FuncId}{args args':V U}{X':Sg}{R:U->Sg->Prop}(hg:Gh X.nx args X args' X')(hn:X.nx<=X'.nx)(h:b7 P f args' X' R):b7 P f args X R:=fun F x vs m w cargs hx hh k9 he dR bW=>by
 have⟨y,g1,g2,g3,g4,g5,g6⟩:=hg F x vs hx hh k9 he;have aS:=g1 m w dR;refine(h F y vs m w cargs g2 g3 g4 g5 aS.fits (bW.ext (aI.refl _ _) aS.nx)).mono ?_;rintro e w₁ ⟨z,aK,u,v,cv,h1,h2,h3,h4,h5,h6,h7,h8,h9⟩;refine⟨z,aK,u,v,cv,h1,h2,aS.trans h3,h4,h5,h6,h7,?_,?_⟩;have g6':Ke x.X.nx x y:=by rw[hx];exact g6
 exact g6'.trans (h8.le (by rw[hx,g2];exact hn));rw[hx];exact Nat.le_trans hn (by rw[<-g2];exact h9)
variable{tm':V U}
def Gh.eqv{X':Sg}(ht:tm=tm')(hs:X=X'):Gh n0 tm X tm' X':=by subst ht;subst hs;exact Gh.refl _ _ _
mutual
inductive Wk:U->U->Prop
 |refl (u:U):Wk u u
 |nil (t:Bool):Wk .nils (.isl t [])
 |full (l:List (List U)):Wk (.isl true l) (.isl false l)
 |agg {l l':List U} (h:rP l l'):Wk (.agg l) (.agg l')
 |tup {l l':List U} (h:rP l l'):Wk (.tup l) (.tup l')
inductive rP:List U->List U->Prop
 |nil:rP [] []
 |cons {u u':U} {l l':List U} (h:Wk u u') (h':rP l l'):rP (u::l) (u'::l')
end
def rP.refl:∀l,rP l l
 |[]=>.nil|u::l=>.cons (.refl u) (rP.refl l)
def Wk.okC{u u':U}(h:Wk u u'):Vx.okC u'=Vx.okC u:=by cases h<;>rfl
def rP.len:∀{l l':V U},rP l l'->l'.length=l.length
 |_,_,.nil=>rfl|_,_,.cons _ h=>by simp[h.len]
def rP.okL:∀{l l':V U},rP l l'->Vx.okL l'=Vx.okL l
 |_,_,.nil=>rfl|_,_,.cons h h'=>by simp[Vx.okL,h.okC,h'.okL]
mutual
def Wk.rel{x:Cx}{u u':U}{v:O}(h:Wk u u')(hr:aD x u v):aD x u' v:=by
 cases h with
 |refl=>exact hr|nil t=>simp only[aD]at hr ⊢;exact .inl ⟨trivial,.inl hr⟩
 |full l=>simp only[aD]at hr ⊢;rcases hr with hr |⟨i,off,c,h1,h2,h3⟩;exact .inl hr;exact .inr ⟨i,off,c,h1,by simp,h3⟩
 |agg h=>simp[aD]at hr ⊢;have⟨vs,h1,h2,h3,h4⟩:=hr;exact⟨vs,h1,rP.rel h h2,by rw[h.len,h3],by rw[h.okL,h4]⟩
 |tup h=>simp[aD]at hr ⊢;have⟨vs,h1,h2,h3⟩:=hr;exact⟨vs,h1,rP.rel h h2,by rw[h.len,h3]⟩
def rP.rel{x:Cx}{l l':V U}{vs:V O}(h:rP l l')(hr:cO x l vs):cO x l' vs:=by rcases h with _|⟨h,h'⟩;exact hr;rcases vs with _|⟨v,vs⟩;simp[cO]at hr;simp[cO]at hr ⊢;exact⟨Wk.rel h hr.1,rP.rel h' hr.2⟩
end
def Gh.wk(h:rP tm tm'):Gh n0 tm X tm' X:=fun F x tv hx hr hf he=>⟨x,fun m w hf=>bG.refl hf,hx,hr,hf,⟨h.rel he.1,by rw[h.len];exact he.2⟩,Ke.refl _ _⟩
def Gh.fz{h':V (Nat×B)}(K:Nat)(b:B)(sz:Nat)(hg:gt X.h K=some b)(hb:∀es cl,b≠.map es cl)(ht:jW K b sz tm=tm')(hh:fzH K b sz X.h=h'):Gh n0 tm X tm' ⟨h',X.nx⟩:=by subst ht;subst hh;exact Gh.freeze sz hg hb
def R9(h:∀x,(c x).length=sz)(l:V v11)(K s:Nat)(e:TypeId)(st:Nat):fz K (.vec (l.map c).flatten e sz st) s (.vl K st 0 l.length)=.isl false (l.map c):=by have hl:=MI h l;have hc:=qq7 h l;simp[fz,beq_eq,hl,hc]
def qzf(n:Nat):∀(a b:V U),aM n a->aM n b->aM n (a++b)
 |[],b,_,h=>h|u::a,b,h,h'=>by simp[aM]at h;simp[List.cons_append,aM];exact⟨h.1,qzf n a b h.2 h'⟩
def w7{v11:Type}{c:v11->V U}(n:Nat)(h:∀x,aM n (c x)):∀l:V v11,aM n (l.map c).flatten
 |[]=>by simp[aM]
 |x::l=>by simp[zQ,List.flatten_cons];exact qzf n _ _ (h x) (w7 n h l)
def RU.fcall{T:Tb}{aB r:V Oper}{o:Oper}{X1:Sg}{K:V U->Sg->Prop}{f:FuncId}{args args':V U}{u:U}(hw:cX aB tm o=some true)(hc:kN T tm o.op=some (f,args))(hg:Gh X.nx args X args' X1)(hn:X.nx<=X1.nx)(lN:b7 C.prog f args' X1 (fun u' X'=>u'=u/\X'=X1))
  (h:RU C T aB r (eS tm o.dst u) X1 K):RU C T aB (o::r) tm X K:=RU.call hw hc (b7.ghost hg hn lN) (fun u' X' ⟨h1,h2⟩=>by subst h1;subst h2;exact h)
def XN(c:v11->V U)(kk:IntKind)(h:qD l 0 hi=some k):i8 l.length l.length none (some (.int kk hi)) none=some (0,hi.toNat,l.length)/\qE (l.map c) 0 hi.toNat=k.map c:=by have⟨h1,h2,h3,h4⟩:=qvl h;exact⟨XP h2 h3,by rw[qzt,<-h4];rfl⟩
def Cw(c:v11->V U)(kk:IntKind)(h:qD l lo (l.length:Int)=some k):i8 l.length l.length (some (.int kk lo)) none none=some (lo.toNat,l.length,l.length)/\qE (l.map c) lo.toNat l.length=k.map c:=by have⟨h1,h2,h3,h4⟩:=qvl h;exact⟨wa h1 h2,by rw[qzt,<-h4];simp⟩
def o5:V (Nat×U)->Nat->M U
 |[],_=>none|(j,u)::l,i=>cond (Nat.beq j i) (some u) (o5 l i)
def Bu(l:V (Nat×U)):Nat->Nat->V U
 |0,_=>[]|n+1,i=>((o5 l i).getD .junk)::Bu l n (i+1)
def fr(n:Nat)(l:V (Nat×U)):V U:=Bu l n 0
def z5e(l:V (Nat×U)):∀n i,(Bu l n i).length=n
 |0,_=>rfl|n+1,i=>by simp[Bu,z5e l n]
def z5d(l:V (Nat×U)):∀n i k,k<n->(Bu l n i)[k]? = some ((o5 l (i+k)).getD .junk)
 |0,_,_,h=>by omega
 |n+1,i,0,_=>by simp[Bu]
 |n+1,i,k+1,h=>by simp[Bu,zH];rw[z5d l n (i+1) k (by omega),show i+1+k=i+(k+1) by omega]
def H5(n:Nat)(l:V (Nat×U)):(fr n l).length=n:=z5e l n 0
variable{k:Nat}
def NY(n:Nat)(l:V (Nat×U))(h:k<n):(fr n l)[k]? = some ((o5 l k).getD .junk):=by have:=z5d l n 0 k h;simpa[fr]using this
variable{n:Nat}
variable{l:V (Nat×U)}
def zbh{t:V U}(hl:t.length=n)(h:∀k,k<n->t[k]? = some ((o5 l k).getD .junk)):t=fr n l:=by apply List.ext_getElem?;intro k;by_cases hk:k<n;rw[h k hk,NY n l hk];rw[List.getElem?_eq_none (by omega),List.getElem?_eq_none (by rw[H5];omega)]
def bZ(n:Nat)(l:V (Nat×U)):EW->M U
 |.tmp t=>cond (Nat.blt t n) (o5 l t) none|.const v=>iI v
 |.func f=>some (.fn (.func f) [] [])|.global _=>none
variable{o:EW}
variable{u:U}
def eY(h:bZ n l o=some u):cB (fr n l) o=some u:=by
 cases o with
 |tmp t=>simp[bZ]at h;rcases hb:Nat.blt t n with _|_;rw[hb]at h;cases h;rw[hb]at h;simp[zC]at h;simp[cB,jD];have ht:t<n:=zY hb;rw[NY n l ht,h];rfl
 |const v=>exact h|func f=>exact h
 |global g=>cases h
def I3(n:Nat)(l:V (Nat×U)):V EW->M (V U)
 |[]=>some []|x::r=>match bZ n l x with
  |some v=>(match I3 n l r with
   |some q=>some (v::q)|none=>none)
  |none=>none
def XL{n:Nat}{l:V (Nat×U)}:∀{os:V EW}{us:V U},I3 n l os=some us->mJ (fr n l) os=some us
 |[],us,h=>h|o::os,us,h=>by simp[I3]at h;rcases h1:bZ n l o with _|v;simp[h1]at h;rcases h2:I3 n l os with _|q;simp[h1,h2]at h;simp[h1,h2]at h;simp[mJ,eY h1,XL h2];exact h
def I2(n:Nat)(l:V (Nat×U)):V (Nat×EW)->M (V (Nat×U))
 |[]=>some []|(i,x)::r=>match bZ n l x with
  |some v=>(match I2 n l r with
   |some q=>some ((i,v)::q)|none=>none)
  |none=>none
def cr{n:Nat}{l:V (Nat×U)}:∀{os:V (Nat×EW)}{us:V (Nat×U)},I2 n l os=some us->B6 (fr n l) os=some us
 |[],us,h=>h|(i,o)::os,us,h=>by simp[I2]at h;rcases h1:bZ n l o with _|v;simp[h1]at h;rcases h2:I2 n l os with _|q;simp[h1,h2]at h;simp[h1,h2]at h;simp[B6,eY h1,cr h2];exact h
def FM(l:V (Nat×U)):M Tmp->U->V (Nat×U)
 |none,_=>l|some d,u=>(d,u)::l
def gi(n:Nat):M Tmp->D1
 |none=>true|some d=>Nat.blt d n
def uF{d:M Tmp}(u:U)(hd:gi n d=true):eS (fr n l) d u=fr n (FM l d u):=by
 rcases d with _|d;rfl;have aF:d<n:=zY hd;refine zbh (by simp[eS,H5]) fun k hk=>?_
 simp[eS,List.getElem?_set,H5,FM,o5,beq_eq];by_cases e:d=k;subst e;simp[aF];simp[e,if_false,yB,zD];exact NY n l hk
section
variable{P:H0}{T:Tb}{aB r:V Oper}{o:Oper}{n:Nat}{l:V (Nat×U)}{X X':Sg}{K:V U->Sg->Prop}{u:U}
variable{C:PG}
variable{d:Tmp}
def RS.op(hw:cX aB (fr n l) o=some true)(h:bO T X (fr n l) o.op=some (u,X'))(he:o.dst=some d)(hd:Nat.blt d n=true)(hk:RU C T aB r (fr n ((d,u)::l)) X' K):RU C T aB (o::r) (fr n l) X K :=
 .inl ⟨hw,u,X',h,by rw[he,uF (d:=some d) u hd];exact hk⟩
def LN(hw:cX aB (fr n l) o=some true)(h:bO T X (fr n l) o.op=some (u,X'))(he:o.dst=none)(hk:RU C T aB r (fr n l) X' K):RU C T aB (o::r) (fr n l) X K :=
 .inl ⟨hw,u,X',h,by rw[he];exact hk⟩
def RS.no(hw:cX aB (fr n l) o=some false)(he:o.dst=some d)(hd:Nat.blt d n=true)(hk:RU C T aB r (fr n ((d,.tup [])::l)) X K):RU C T aB (o::r) (fr n l) X K :=
 .inr (.inr (.inl ⟨hw,by rw[he,uF (d:=some d) _ hd];exact hk⟩))
variable{b:D1}
def RS.nilq{t e ty:TypeId}{xo yo:EW}{rs:V (V U)}(hw:cX aB (fr n l) o=some true)(ho:o.op=.binOp .eql t xo yo ty)(hd:T.und t=some (.slice e))(hx:bZ n l xo=some (.isl b rs))(hy:bZ n l yo=some .nils)(he:o.dst=some d)(bF:Nat.blt d n=true)(hk:∀z:D1,(z=true->rs=[])->RU C T aB r (fr n ((d,.bool z)::l)) X K):RU C T aB (o::r) (fr n l) X K :=
 .inr (.inr (.inr (.inl ⟨hw,t,xo,yo,ty,e,b,rs,ho,hd,eY hx,eY hy,fun z hz=>by rw[he,uF (d:=some d) _ bF];exact hk z hz⟩)))
def RS.step{u:U}{X':Sg}(hw:cX aB (fr n l) o=some true)(hs:DP C X (fr n l) o (fun u' X1=>u'=u/\X1=X'))(he:o.dst=some d)(hd:Nat.blt d n=true)(hk:RU C T aB r (fr n ((d,u)::l)) X' K):RU C T aB (o::r) (fr n l) X K :=
 .inr (.inr (.inr (.inr ⟨hw,_,hs,fun u' X1 h=>by rw[h.1,h.2,he,uF (d:=some d) _ hd];exact hk⟩)))
def RS.done(h:K (fr n l) X):RU C T aB [] (fr n l) X K:=h
def RS.call{f:FuncId}{args:V U}(hw:cX aB (fr n l) o=some true)(hc:kN T (fr n l) o.op=some (f,args))(lN:b7 C.prog f args X (fun u' X'=>u'=u/\X'=X))(he:o.dst=some d)(hd:Nat.blt d n=true)(hk:RU C T aB r (fr n ((d,u)::l)) X K):RU C T aB (o::r) (fr n l) X K :=
 RU.pcall hw hc lN (by rw[he,uF (d:=some d) u hd];exact hk)
def RS.fcall{C:PG}{f:FuncId}{args args':V U}{X1:Sg}(hw:cX aB (fr n l) o=some true)(hc:kN T (fr n l) o.op=some (f,args))(hg:Gh X.nx args X args' X1)(hn:X.nx<=X1.nx)(lN:b7 C.prog f args' X1 (fun u' X'=>u'=u/\X'=X1)){d:Tmp}(he:o.dst=some d)(hd:Nat.blt d n=true)(hk:RU C T aB r (fr n ((d,u)::l)) X1 K):RU C T aB (o::r) (fr n l) X K :=
 RU.fcall hw hc hg hn lN (by rw[he,uF (d:=some d) u hd];exact hk)
variable{j:Nat}
variable{want:D1}
def yP(hg:o.guard=some (j,want))(hj:C3 aB j=some d)(hl:bZ n l (.tmp d)=some (.bool b))(hb:b=want):cX aB (fr n l) o=some true:=by have:=eY hl;simp[cB]at this;simp[cX,hg,hj,this,hb]
def qe(hg:o.guard=some (j,want))(hj:C3 aB j=some d)(hl:bZ n l (.tmp d)=some (.bool b))(hb:b= !want):cX aB (fr n l) o=some false:=by have:=eY hl;simp[cB]at this;cases want<;>simp[cX,hg,hj,this,hb]
def IU{q:V U}(hg:o.guard=some (j,want))(hj:C3 aB j=some d)(hl:bZ n l (.tmp d)=some (.tup q)):cX aB (fr n l) o=some false:=by have:=eY hl;simp[cB]at this;simp[cX,hg,hj,this]
end
section
variable{P:H0}{T:Tb}{aB r:V Oper}{o:Oper}{n:Nat}{l:V (Nat×U)}{X X':Sg}{bD:V RK}{K:V RK->V U->Sg->Prop}{u:U}
variable{d:Tmp}
def RD.look(hw:cX aB (fr n l) o=some true)(h:bO T X (fr n l) o.op=some (u,X))(he:o.dst=some d)(hd:Nat.blt d n=true)(hk:RH P T aB r (fr n ((d,u)::l)) X ((1,⟨fr n l,o,u,false,false,X,X⟩)::bD) K):RH P T aB (o::r) (fr n l) X bD K :=
 .inl ⟨hw,u,h,by rw[he,uF (d:=some d) u hd];exact hk⟩
def RD.act(hw:cX aB (fr n l) o=some true)(h:bO T X (fr n l) o.op=some (u,X'))(he:o.dst=some d)(hd:Nat.blt d n=true)(hk:RH P T aB r (fr n ((d,u)::l)) X' ((3,⟨fr n l,o,u,true,true,X,X'⟩)::bD) K):RH P T aB (o::r) (fr n l) X bD K :=
 .inr (.inl ⟨hw,u,X',h,by rw[he,uF (d:=some d) u hd];exact hk⟩)
def HX(hw:cX aB (fr n l) o=some true)(h:bO T X (fr n l) o.op=some (u,X'))(he:o.dst=none)(hk:RH P T aB r (fr n l) X' ((3,⟨fr n l,o,u,true,true,X,X'⟩)::bD) K):RH P T aB (o::r) (fr n l) X bD K :=
 .inr (.inl ⟨hw,u,X',h,by rw[he];exact hk⟩)
def RD.no(hw:cX aB (fr n l) o=some false)(he:o.dst=some d)(hd:Nat.blt d n=true)(hk:RH P T aB r (fr n ((d,.tup [])::l)) X ((0,⟨fr n l,o,.tup [],false,false,X,X⟩)::bD) K):RH P T aB (o::r) (fr n l) X bD K :=
 .inr (.inr (.inr (.inr (.inl ⟨hw,by rw[he,uF (d:=some d) _ hd];exact hk⟩))))
def RD.free{f:FuncId}{args:V U}(hw:cX aB (fr n l) o=some true)(hc:kN T (fr n l) o.op=some (f,args))(lN:∀s,b7 P f args s (fun u' X'=>u'=u/\X'=s))(he:o.dst=some d)(hd:Nat.blt d n=true)(hk:RH P T aB r (fr n ((d,u)::l)) X ((0,⟨fr n l,o,u,false,false,X,X⟩)::bD) K):RH P T aB (o::r) (fr n l) X bD K :=
 .inr (.inr (.inr (.inr (.inr (.inl ⟨hw,u,.inl ⟨f,args,hc,lN⟩,by rw[he,uF (d:=some d) u hd];exact hk⟩)))))
def RD.freeO(hw:cX aB (fr n l) o=some true)(hf:B5 P T (fr n l) o.op u)(he:o.dst=some d)(hd:Nat.blt d n=true)(hk:RH P T aB r (fr n ((d,u)::l)) X ((0,⟨fr n l,o,u,false,false,X,X⟩)::bD) K):RH P T aB (o::r) (fr n l) X bD K :=
 .inr (.inr (.inr (.inr (.inr (.inl ⟨hw,u,hf,by rw[he,uF (d:=some d) u hd];exact hk⟩)))))
def RD.fz{u1:U}{s1 X':Sg}(hw:cX aB (fr n l) o=some true)(h:bO T X (fr n l) o.op=some (u1,s1))(hg:Gh s1.nx [u1] s1 [u] X')(hn:s1.nx<=X'.nx)(he:o.dst=some d)(hd:Nat.blt d n=true)(hk:RH P T aB r (fr n ((d,u)::l)) X' ((3,⟨fr n l,o,u,true,true,X,X'⟩)::bD) K):RH P T aB (o::r) (fr n l) X bD K :=
 .inr (.inr (.inr (.inr (.inr (.inr ⟨hw,u1,s1,d,u,X',h,he,by rw[H5];rwa [Nat.blt_eq]at hd,hg,hn,by rw[he,uF (d:=some d) u hd];exact hk⟩)))))
def RD.call{f:FuncId}{args:V U}(hw:cX aB (fr n l) o=some true)(hc:kN T (fr n l) o.op=some (f,args))(lN:b7 P f args X (fun u' X'=>u'=u/\X'=X)){d:Tmp}(he:o.dst=some d)(hd:Nat.blt d n=true)(hk:RH P T aB r (fr n ((d,u)::l)) X ((2,⟨fr n l,o,u,true,false,X,X⟩)::bD) K):RH P T aB (o::r) (fr n l) X bD K :=
 RH.call hw hc lN (by rw[he,uF (d:=some d) u hd];exact hk)
def bC(h:K bD (fr n l) X):RH P T aB [] (fr n l) X bD K:=h
end
def D9(l:V (Nat×U)):V (Nat×U)->Prop
 |[]=>True|(i,u)::r=>o5 l i=some u/\D9 l r
def qxq{l:V (Nat×U)}:∀{r:V (Nat×U)},D9 l r->∀i u,o5 r i=some u->o5 l i=some u
 |[],_,i,u,h=>by cases h
 |(j,v)::r,hs,i,u,h=>by simp[D9]at hs;simp[o5,beq_eq]at h;by_cases e:j=i;subst e;simp at h;subst h;exact hs.1;simp[e,yB,zD]at h;exact qxq hs.2 i u h
def I'{x:Cx}{tv:V O}(hl:tv.length=n)(h:∀i u,i<n->o5 l i=some u->∃v,tv[i]? = some v/\aD x u v):bB x (fr n l) tv:=by
 refine bB.mk' (by rw[H5,hl]) fun i u hi=>?_;have aF:i<n:=by have:=(zG.1 hi).1;rwa [H5]at this
 rw[NY n l aF]at hi;cases hk:o5 l i with
 |none=>rw[hk]at hi;simp at hi;subst hi;exact⟨tv[i],List.getElem?_eq_getElem (by omega),by simp[aD]⟩|some w=>rw[hk]at hi;simp at hi;subst hi;exact h i w aF hk
def qxb{x:Cx}{tv:V O}(he:bB x (fr n l) tv){i:Nat}(hi:i<n)(h:o5 l i=some u):∃v,tv[i]? = some v/\aD x u v :=
 he.get (by rw[NY n l hi,h];rfl)
variable{n0:Nat}
variable{l':V (Nat×U)}
variable{X:Sg}
def Gh.sub(h:D9 l l'):Gh n0 (fr n l) X (fr n l') X:=fun F x tv hx hr hf he=>
 ⟨x,fun m w hf=>bG.refl hf,hx,hr,hf,I' (by rw[<-he.2,H5]) (fun i u hi hl=>qxb he hi (qxq h i u hl)),Ke.refl _ _⟩
def OV:Nat->V U->V (Nat×U)
 |_,[]=>[]|i,u::l=>(i,u)::OV (i+1) l
def qwd:∀(l:V U)(i k:Nat)(u:U),o5 (OV i l) k=some u->i<=k/\l[k-i]? = some u
 |[],i,k,u,h=>by cases h
 |v::l,i,k,u,h=>by simp[OV,o5,beq_eq]at h;by_cases e:i=k;subst e;simp at h;subst h;simp;simp[e,yB,zD]at h;have⟨h1,h2⟩:=qwd l (i+1) k u h;refine⟨by omega,?_⟩;rw[show k-i=(k-(i+1))+1 by omega];simpa using h2
def z0w:∀(n:Nat)(l:V U)(k:Nat)(u:U),l[k]? = some u->(AX n l)[k]? = some u
 |0,l,k,u,h=>h|n+1,[],k,u,h=>by simp at h
 |n+1,v::l,0,u,h=>by simpa[AX]using h
 |n+1,v::l,k+1,u,h=>by simp[AX,zH]at*;exact z0w n l k u h
def dg:∀(n:Nat)(l:V U),l.length<=n->(AX n l).length=n
 |0,l,h=>by simp[AX];exact List.eq_nil_of_length_eq_zero (by omega)
 |n+1,[],h=>by simp[AX,dg n [] (by simp)]
 |n+1,v::l,h=>by simp[AX,dg n l (by simpa using h)]
def HY{args:V U}(h:args.length<=n):Gh n0 (AX n args) X (fr n (OV 0 args)) X:=fun F x tv hx hr hf he=>
 ⟨x,fun m w hf=>bG.refl hf,hx,hr,hf,I' (by rw[<-he.2,dg n args h]) (fun i u hi hl=>by have⟨_,h2⟩:=qwd args 0 i u hl;exact he.get (z0w n args i u (by simpa using h2))),Ke.refl _ _⟩
def BelS(n:Nat):V (Nat×U)->Prop
 |[]=>True|(_,u)::l=>bA n u/\BelS n l
def qvd{n:Nat}:∀{l:V (Nat×U)},BelS n l->∀i u,o5 l i=some u->bA n u
 |[],_,i,u,h=>by cases h
 |(j,v)::l,hb,i,u,h=>by simp[BelS]at hb;simp[o5,beq_eq]at h;by_cases e:j=i;subst e;simp at h;subst h;exact hb.1;simp[e,yB,zD]at h;exact qvd hb.2 i u h
def Ni{n1:Nat}(h:BelS n1 l):aM n1 (fr n l):=by
 rw[HE];intro u hu;obtain⟨i,hi,rfl⟩:=List.getElem_of_mem hu;have aF:i<n:=by rwa [H5]at hi
 have:=NY n l aF;rw[List.getElem?_eq_getElem hi]at this;simp[zA]at this;rw[this];rcases hk:o5 l i with _|w;simp[bA];exact qvd h i w hk
def Gh.toS{n1:Nat}{X':Sg}(ht:D9 l l')(hs:(⟨Vx.cut n1 X.h,n1⟩:Sg)=X')(h1:n0<=n1)(h2:n1<=X.nx)(hb:BelS n1 l')(hh:GN n1 X'.h):Gh n0 (fr n l) X (fr n l') X':=by subst hs;exact(Gh.sub ht).trans (Gh.cut h1 h2 (Ni hb) hh)
def mX{X':Sg}(ht:D9 l l')(hs:X=X'):Gh n0 (fr n l) X (fr n l') X':=by subst hs;exact Gh.sub ht
def fzS(K:Nat)(b:B)(sz:Nat):V (Nat×U)->V (Nat×U)
 |[]=>[]|(i,u)::l=>(i,fz K b sz u)::fzS K b sz l
def z0f(K:Nat)(b:B)(sz:Nat):∀(l:V (Nat×U))(i:Nat),o5 (fzS K b sz l) i=(o5 l i).map (fz K b sz)
 |[],i=>rfl|(j,u)::l,i=>by simp[fzS,o5,beq_eq,z0f K b sz l i];by_cases e:j=i<;>simp[e]
def Bs(K:Nat)(b:B)(sz n:Nat)(l:V (Nat×U)):jW K b sz (fr n l)=fr n (fzS K b sz l):=by
 refine zbh (by rw[XW,H5]) fun k hk=>?_;have hm:∀(t:V U)(k:Nat),(jW K b sz t)[k]? = (t[k]?).map (fz K b sz):=by
  intro t;induction t with
  |nil=>intro k;simp[jW]|cons u t ih=>intro k;cases k<;>simp[jW,ih]
 rw[hm,NY n l hk,z0f];rcases o5 l k with _|w;simp[FD];rfl
def Gh.fzS{h':V (Nat×B)}(K:Nat)(b:B)(sz:Nat)(hg:gt X.h K=some b)(hb:∀es cl,b≠.map es cl)(ht:Vx.fzS K b sz l=l')(hh:fzH K b sz X.h=h'):Gh n0 (fr n l) X (fr n l') ⟨h',X.nx⟩:=by subst ht;subst hh;rw[<-Bs];exact Gh.freeze sz hg hb
inductive Ju:List (Nat×U)->List (Nat×U)->Prop
 |nil:Ju [] []
 |cons {i:Nat} {u u':U} {l l':List (Nat×U)} (h:Wk u u') (h':Ju l l'):Ju ((i,u)::l) ((i,u')::l')
def Ju.look:∀{l l':V (Nat×U)},Ju l l'->∀i u',o5 l' i=some u'->∃u,o5 l i=some u/\Wk u u'
 |_,_,.nil,i,u',h=>by cases h
 |_,_,.cons (i:=j) h h',i,u',hu=>by simp[o5,beq_eq]at hu ⊢;by_cases e:j=i;subst e;simp at hu;subst hu;exact⟨_,by simp,h⟩;simp[e,yB,zD]at hu ⊢;exact h'.look i u' hu
def Gh.wkS(h:Ju l l'):Gh n0 (fr n l) X (fr n l') X:=fun F x tv hx hr hf he=>
 ⟨x,fun m w hf=>bG.refl hf,hx,hr,hf,I' (by rw[<-he.2,H5]) (fun i u hi hl=>by have⟨w,h1,h2⟩:=h.look i u hl;have⟨v,h3,h4⟩:=qxb he hi h1;exact⟨v,h3,h2.rel h4⟩),Ke.refl _ _⟩
def Gh.nilS(i:Nat)(e:TypeId)(sz:Nat)(dU:0<sz)(h0:n0<=X.nx)(hi:bZ n l (.tmp i)=some .nils)(hd:gi n (some i)=true):Gh n0 (fr n l) X (fr n ((i,.vl X.nx 0 0 0)::l)) (newU X (.vec [] e sz 0)):=by
 have h1:=eY hi;have h2:=Gh.nilvec (n0:=n0) (X:=X) i e sz dU h0 (tm:=fr n l) h1;have h3:=uF (n:=n) (l:=l) (d:=some i) (.vl X.nx 0 0 0) hd;simp[eS,FM]at h3
 rwa [h3]at h2
variable{c:EW}
variable{t:D1}
def wK{C:PG}{Q:Exit->V U->Sg->Prop}{p q:Code}(hc:bZ n l c=some (.bool t))(h1:t=true->WPU C n0 p (fr n l) X Q)(h2:t=false->WPU C n0 q (fr n l) X Q):WPU C n0 (.cond c p q) (fr n l) X Q:=WPU.cond (eY hc) h1 h2
variable{T:Tb}
variable{us:V U}
def dS{t:Tmp}{rs:V ResultVar}(h:bZ n l (.tmp t)=some u)(hr:oE T X (fr n l) rs=some us):oE T X (fr n l) (.tmp t::rs)=some (u::us):=by have:=eY h;simp[cB]at this;simp[oE,this,hr]
def d9:oE T X (fr n l) []=some []:=rfl
variable{t:TypeId}
def lV{a:Tmp}{rs:V ResultVar}(h:bO T X (fr n l) (.load t (.tmp a))=some (u,X))(hr:oE T X (fr n l) rs=some us):oE T X (fr n l) (.cell a t::rs)=some (u::us):=by
 have:qG T X (fr n l) (.load t (.tmp a))=some u:=by have hp:j4 T X (fr n l) (.load t (.tmp a))=none:=rfl;have he:oY T X (fr n l) (.load t (.tmp a))=none:=rfl;unfold bO at h;rw[hp]at h;simp only at h;rcases hr:qG T X (fr n l) (.load t (.tmp a))with _|v;rw[hr,he]at h;cases h;rw[hr]at h;simp at h;rw[h]
 simp[oE,this,hr]
section
variable{T:Tb}{X X':Sg}{n:Nat}{l:V (Nat×U)}{u v w:U}
def vV{op:Op}(h:j4 T X (fr n l) op=some u):bO T X (fr n l) op=some (u,X):=by simp[bO,h]
def LR{op:Op}(h0:j4 T X (fr n l) op=none)(h:qG T X (fr n l) op=some u):bO T X (fr n l) op=some (u,X):=by simp[bO,h,h0]
variable{q:U×Sg}
def HZ{op:Op}(h0:j4 T X (fr n l) op=none)(h1:qG T X (fr n l) op=none)(h:oY T X (fr n l) op=some q):bO T X (fr n l) op=some q:=by simp[bO,h,h0,h1]
variable{x:EW}
def i7(h:bZ n l x=some u):bO T X (fr n l) (.move x)=some (u,X):=vV (eY h)
def fp(h:bZ n l x=some u):bO T X (fr n l) (.assign x)=some (u,X):=vV (eY h)
variable{a:EW}
def dh{b:EW}{t:D1}(hc:bZ n l c=some (.bool t))(ht:t=true)(h:bZ n l a=some u):bO T X (fr n l) (.pick c a b)=some (u,X):=vV (by subst ht;simp[j4,eY hc];exact eY h)
def dj{b:EW}{t:D1}(hc:bZ n l c=some (.bool t))(ht:t=false)(h:bZ n l b=some u):bO T X (fr n l) (.pick c a b)=some (u,X):=vV (by subst ht;simp[j4,eY hc];exact eY h)
variable{off:Nat}
def fS{st:Nat}(h:bZ n l x=some (.ptr k st off))(hl:cM X k st=true):bO T X (fr n l) (.nilCheck x)=some (.ptr k st off,X):=vV (by simp[j4,eY h,hl,zC])
def Nr{ps:H2 (Nat×EW)}{qs:V (Nat×U)}(h:I2 n l ps.toList=some qs)(hb:Fh T t qs=some u):bO T X (fr n l) (.build t ps)=some (u,X):=vV (by simp[j4,cr h,hb])
variable{t':TypeId}
variable{y:EW}
def XE{op:BinOp}(hx:bZ n l x=some v)(hy:bZ n l y=some w)(h:g2 (rD T op t) v w=some u):bO T X (fr n l) (.binOp op t x y t')=some (u,X):=vV (by simp[j4,eY hx,eY hy,LC,h])
def Z7{op:BinOp}(hx:bZ n l x=some v)(hy:bZ n l y=some w)(h0:g2 (rD T op t) v w=none)(h:Fb T X op t v w=some u):bO T X (fr n l) (.binOp op t x y t')=some (u,X):=vV (by simp[j4,eY hx,eY hy,LC,h0,h])
variable{k:IntKind}
variable{r:O}
def tG{op:BinOp}{k':IntKind}{a b:Int}(hx:bZ n l x=some (.int k a))(hy:bZ n l y=some (.int k' b))(h:kS op k a k' b=some r)(hr:iI r=some u):bO T X (fr n l) (.binOp op t x y t')=some (u,X):=XE hx hy (by simp[g2,toV,rD,h,hr])
def H3{op:BinOp}{a b:V Xv}(hx:bZ n l x=some (.str a))(hy:bZ n l y=some (.str b))(h:IP op ⟨⟨a⟩⟩ ⟨⟨b⟩⟩=some r)(hr:iI r=some u):bO T X (fr n l) (.binOp op t x y t')=some (u,X):=XE hx hy (by simp[g2,toV,rD,h,hr])
def SX{op:UnOp}(hx:bZ n l x=some v)(h:toV v=some (r)){q:O}(hu:QK op r=some q)(hq:iI q=some u):bO T X (fr n l) (.unOp op t x)=some (u,X):=vV (by simp[j4,eY hx,g1,h,hu,hq])
def Nd{s d:TypeId}{q:O}(hx:bZ n l x=some v)(h:toV v=some r)(hu:convX T s d r=some q)(hq:iI q=some u):bO T X (fr n l) (.convert s d x)=some (u,X):=vV (by simp[j4,eY hx,g1,h,hu,hq])
def Mm{f:Fn}{first cap:H2 EW}{a b:V U}(h1:I3 n l first.toList=some a)(h2:I3 n l cap.toList=some b):bO T X (fr n l) (.makeFunc f first cap)=some (.fn f a b,X):=vV (by simp[j4,XL h1,XL h2])
variable{k:Nat}
def j5{f:Nat}{fs:H2 Field}{fd:Field}{s st:Nat}(hd:T.und t=some (.struct fs))(hf:nth fs.toList f=some fd)(hs:cT T fd.type=some (s+1))(hx:bZ n l x=some (.ptr k st off))(hl:cM X k st=true){iL:Nat}(ho:off+fd.offset=iL):bO T X (fr n l) (.fieldAddr t x f)=some (.ptr k st iL,X):=vV (by subst ho;simp[j4,eY hx,Ob,hd,hf,hs,hl,zC])
variable{q:V U}
def bh{f:Nat}{fs:H2 Field}{fd:Field}{s:Nat}(hd:T.und t=some (.struct fs))(hf:nth fs.toList f=some fd)(hs:cT T fd.type=some (s+1))(hx:bZ n l x=some (.iptr q)){q':V U}(hq:q.drop fd.offset=q'):bO T X (fr n l) (.fieldAddr t x f)=some (.iptr q',X):=vV (by subst hq;simp[j4,eY hx,Ob,hd,hf,hs])
def zbv{i:Nat}(hx:bZ n l x=some (.tup q))(h:nth q i=some u):bO T X (fr n l) (.extract x i)=some (u,X):=vV (by simp[j4,eY hx,xv,h])
def dO{i:EW}(hx:bZ n l x=some v)(hi:bZ n l i=some w)(h:HC T X t v w=some u):bO T X (fr n l) (.indexAddr t x i)=some (u,X):=vV (by simp[j4,eY hx,eY hi,h])
variable{v11:Type}
variable{e:TypeId}
variable{sz:Nat}
variable{b:D1}
variable{xs:V v11}
variable{i:Int}
def Fc(c:v11->V U){k:IntKind}{x:v11}(hd:T.und t=some (.slice e))(hs:cT T e=some sz)(hc:∀x,(c x).length=sz)(hx:aC xs i=some x)(hq:c x=q):HC T X t (.isl b (xs.map c)) (.int k i)=some (.iptr q):=by
 subst hq;obtain⟨h1,h2,h3⟩:=z5t c hx;have:Nat.beq (c x).length sz=true:=by simp[beq_eq,hc]
 simp only[HC,hd,hs,yA,h1,h2,and_self,if_true,h3,this,zC]
variable{e':TypeId}
variable{K:Nat}
def gR(c:v11->V U){st:Nat}{k:IntKind}{x:v11}(hd:T.und t=some (.slice e))(hs:cT T e=some sz)(hz:0<sz)(hc:∀x,(c x).length=sz)(hv:B0 X K st=some ((xs.map c).flatten,e',sz))(hx:aC xs i=some x):HC T X t (.vl K st 0 xs.length) (.int k i)=some (.ptr K st (0*sz+i.toNat*sz)):=by
 have⟨h1,h2,h3⟩:=Y3 hx;have d5:=VX hc hz hx;have hb:Nat.beq sz sz=true:=by simp[beq_eq]
 simp[HC,hd,hs,hv,hb,zC,h1,h2,ne_eq,d5,not_false_eq_true,and_self,if_true]
variable{d:TypeDesc}
def RM(c:v11->V U){st:Nat}{x:v11}(hd:T.und t=some d)(ha:sF d=true)(hs:cT T t=some sz)(hc:∀x,(c x).length=sz)(ho:bZ n l o=some (.ptr K st (0*sz+i.toNat*sz)))(hv:gt X.h K=some (.vec (xs.map c).flatten e' sz st))(hx:aC xs i=some x)(hq:c x=q):bO T X (fr n l) (.load t o)=some (.agg q,X):=by
 subst hq;refine LR rfl ?_;have hb:Nat.beq st st=true:=by simp[beq_eq]
 simp only[qG,eY ho,cellsOf,hv,hb,zC,GX,hd,ha,hs,z89 hc hx]
def yW(c:v11->V U){st:Nat}{x:v11}(f:v11->U)(hd:T.und t=some d)(ha:sF d=false)(hc:∀x,c x=[f x])(ho:bZ n l o=some (.ptr K st (0*1+i.toNat*1)))(hv:gt X.h K=some (.vec (xs.map c).flatten e' 1 st))(hx:aC xs i=some x):bO T X (fr n l) (.load t o)=some (f x,X):=by
 refine LR rfl ?_;have hb:Nat.beq st st=true:=by simp[beq_eq]
 simp only[qG,eY ho,cellsOf,hv,hb,zC,GX,hd,ha,zD,zec (fun x=>by rw[hc];rfl) hc hx]
def yX{lo hi mx:M EW}{a b c:M O}(hx:bZ n l x=some v)(h1:xX (fr n l) lo=some a)(h2:xX (fr n l) hi=some b)(h3:xX (fr n l) mx=some c)(h:RC T X t v a b c=some u):bO T X (fr n l) (.slice t x lo hi mx)=some (u,X):=vV (by simp[j4,eY hx,h1,h2,h3,h])
def mI:xX (fr n l) none=some none:=rfl
def yN{k:IntKind}{z:Int}(h:bZ n l o=some (.int k z)):xX (fr n l) (some o)=some (some (.int k z)):=by simp[xX,eY h]
def RE(c:v11->V U){a h m:Nat}{ys:V v11}{lo hi:M O}(hd:T.und t=some (.slice e))(hs:cT T e=some sz)(hc:∀x,(c x).length=sz)(hb:i8 xs.length xs.length lo hi none=some (a,h,m))(hy:qE (xs.map c) a h=ys.map c):RC T X t (.isl b (xs.map c)) lo hi none=some (.isl (cond b (Nat.beq h xs.length) false) (ys.map c)):=by simp[RC,hd,hs,z3r hc xs,if_true,yA,hb,hy]
variable{args:H2 EW}
variable{ts:H2 TypeId}
def F5(ha:args.toList=[x]){q:V TypeId}(ht:ts.toList=t::q)(hx:bZ n l x=some v)(h:lenU T X t v=some u):bO T X (fr n l) (.call { callee:=.builtin .len,args:=args,argTypes:=ts })=some (u,X):=vV (by simp[j4,ha,ht,mJ,eY hx,h])
def Fu(c:v11->V U)(hd:T.und t=some (.slice e)):lenU T X t (.isl b (xs.map c))=some (.int .i64 xs.length):=by simp[lenU,hd]
def zbw{xs:V EW}{a:O}{b:V O}(ha:args.toList=x::xs)(hx:bZ n l x=some v)(hl:I3 n l xs=some us)(h1:toV v=some a)(h2:eG us=some b)(h:yR R7 a b=some r)(hr:iI r=some u):bO T X (fr n l) (.call { callee:=.builtin .max,args:=args,argTypes:=ts })=some (u,X):=vV (by simp[j4,ha,mJ,eY hx,XL hl,h1,h2,h,hr])
def bw{xs:V EW}{a:O}{b:V O}(ha:args.toList=x::xs)(hx:bZ n l x=some v)(hl:I3 n l xs=some us)(h1:toV v=some a)(h2:eG us=some b)(h:yR R6 a b=some r)(hr:iI r=some u):bO T X (fr n l) (.call { callee:=.builtin .min,args:=args,argTypes:=ts })=some (u,X):=vV (by simp[j4,ha,mJ,eY hx,XL hl,h1,h2,h,hr])
variable{cs:V U}
def jA{st:Nat}(hd:T.und t=some d)(ha:sF d=true)(hs:cT T t=some sz)(hx:bZ n l x=some (.ptr k st off))(hc:cellsOf X k st=some q)(h:lD q off sz=some cs):bO T X (fr n l) (.load t x)=some (.agg cs,X):=LR rfl (by simp[qG,eY hx,hc,GX,hd,ha,hs,h,zC])
def nQ{st:Nat}(hd:T.und t=some d)(ha:sF d=false)(hx:bZ n l x=some (.ptr k st off))(hc:cellsOf X k st=some q)(h:nth q off=some u):bO T X (fr n l) (.load t x)=some (u,X):=LR rfl (by simp[qG,eY hx,hc,GX,hd,ha,h,zD])
def zbr(hd:T.und t=some d)(ha:sF d=true)(hs:cT T t=some sz)(hx:bZ n l x=some (.iptr q))(h:lD q 0 sz=some cs):bO T X (fr n l) (.load t x)=some (.agg cs,X):=LR rfl (by simp[qG,eY hx,GX,hd,ha,hs,h,zC])
def Mp(hd:T.und t=some d)(ha:sF d=false)(hx:bZ n l x=some (.iptr q))(h:nth q 0=some u):bO T X (fr n l) (.load t x)=some (u,X):=LR rfl (by simp[qG,eY hx,GX,hd,ha,h,zD])
def Z8(hx:bZ n l x=some v)(h:xY v=some cs)(hk:okL cs=true):bO T X (fr n l) (.box e x)=some (.ptr X.nx 0 0,newU X (.row cs e)):=HZ rfl rfl (by simp[oY,eY hx,h,hk,zC])
variable{z:O}
def z0s{a b:Nat}{zu:V U}(hi:T.inf e=some (a,b,z))(hz:qC z.cells.toList=some zu)(hk:okL zu=true):bO T X (fr n l) (.alloc e)=some (.ptr X.nx 0 0,newU X (.row zu e)):=HZ rfl rfl (by simp[oY,hi,hz,hk,zC])
def z0v{st:Nat}{q':V U}(hs:cT T t=some sz)(ha:bZ n l a=some (.ptr k st off))(hx:bZ n l x=some v)(hc:xY v=some cs)(hl:Nat.beq cs.length sz=true)(hk:okL cs=true)(hg:cellsOf X k st=some q)(hp:qB q off (GS X k cs)=some q')(E4:M6 X k q'=some X'):bO T X (fr n l) (.store t a x)=some (.junk,X'):=HZ rfl rfl (by simp[oY,eY ha,eY hx,XC,hs,hc,hl,hk,zC,hg,hp,E4])
def Sp{ps:H2 (Nat×EW)}{qs:V (Nat×U)}{q:U×Sg}(h:I2 n l ps.toList=some qs)(hb:Oi T X t k qs=some q):bO T X (fr n l) (.buildSlice t k ps)=some q:=HZ rfl rfl (by simp[oY,cr h,hb])
def So{q:U×Sg}(hx:bZ n l x=some v)(hy:bZ n l y=some w)(hb:Ka T X t v w=some q):bO T X (fr n l) (.makeSlice t x y)=some q:=HZ rfl rfl (by simp[oY,eY hx,eY hy,hb])
variable{xt:TypeId}
def uZ{q:U×Sg}(ha:args.toList=[x,y])(ht:ts.toList=[t,xt])(hx:bZ n l x=some v)(hy:bZ n l y=some w)(h:MD T X t xt v w=some q):bO T X (fr n l) (.call { callee:=.builtin .append,args:=args,argTypes:=ts })=some q:=HZ rfl rfl (by simp[oY,ha,ht,mJ,eY hx,eY hy,xy,h])
def fH{c:Call}{f:EW}{g:FuncId}{fn:Func}{first cap a7:V U}(hc:c.callee=.value f)(hf:bZ n l f=some (.fn (.func g) first cap))(hg:T.fn g=some fn)(hb:fn.body.isSome=true)(ha:I3 n l c.args.toList=some a7){args:V U}(he:first++a7++cap=args):kN T (fr n l) (.call c)=some (g,args):=by subst he;simp[kN,hc,eY hf,hg,hb,zC,XL ha]
variable{e2:TypeId}
variable{by_:Nat}
def ai(c:v11->V U)(ys:V v11)(hd:T.und t=some (.slice e))(dI:T.und xt=some (.slice e2))(hi:T.inf e=some (sz+1,by_,z))(hz:Nat.beq z.cells.toList.length (sz+1)=true)(hw:wV X (sz+1) w=some (ys.length,(ys.map c).flatten))(hr:ys.length*by_<=140737488355328/\ys.length<=140737488355328):MD T X t xt .nils w=some (.vl X.nx 0 0 ys.length,newU X (.vec (ys.map c).flatten e (sz+1) 0)):=by simp only[MD,hd,dI,hi,hz,zC,hw,hr,and_self,if_true]
def MF(c:v11->V U)(ys:V v11){a:Nat}(hd:T.und t=some (.slice e))(dI:T.und xt=some (.slice e2))(hi:T.inf e=some (sz+1,by_,z))(hz:Nat.beq z.cells.toList.length (sz+1)=true)(hq:rowOf X a=some q)(ho:Nat.ble off q.length=true)(hw:wV X (sz+1) w=some (ys.length,(ys.map c).flatten))(hr:ys.length*by_<=140737488355328/\ys.length<=140737488355328):MD T X t xt (.sl a off 0 0) w=some (.vl X.nx 0 0 ys.length,newU X (.vec (ys.map c).flatten e (sz+1) 0)):=by
 have ho':=zY ho;have:lD q off (0*(sz+1))=some []:=by simp[lD,ho']
 simp only[MD,hd,dI,hi,hz,zC,hw,hq,this,hr,and_self,if_true]
def RN(c:v11->V U)(ys:V v11){a st:Nat}(hd:T.und t=some (.slice e))(dI:T.und xt=some (.slice e2))(hi:T.inf e=some (sz+1,by_,z))(hz:Nat.beq z.cells.toList.length (sz+1)=true)(hc:∀x,(c x).length=sz+1)(hg:gt X.h a=some (.vec (xs.map c).flatten e (sz+1) st))(hw:wV X (sz+1) w=some (ys.length,(ys.map c).flatten))(hr:(xs.length+ys.length)*by_<=140737488355328/\xs.length+ys.length<=140737488355328):MD T X t xt (.vl a st 0 xs.length) w=some (.vl a (st+1) 0 (xs++ys).length,⟨ug X.h a (.vec ((xs++ys).map c).flatten e (sz+1) (st+1)),X.nx⟩):=by
 have b1:Nat.beq st st=true:=by simp[beq_eq]
 have b2:Nat.beq e e=true:=by simp[beq_eq]
 have b3:Nat.beq (sz+1) (sz+1)=true:=by simp[beq_eq]
 have hs:=zdy hc xs;have hl:=MI hc xs;rw[z9m,zU];simp only[MD,hd,dI,hi,hz,zC,hw,hg,b1,b2,b3,hs,hl,hr.1,hr.2,true_and,and_true,or_true,if_true]
def H6(c:v11->V U)(hc:∀x,(c x).length=sz):wV X sz (.isl b (xs.map c))=some (xs.length,(xs.map c).flatten):=by simp[wV,z3r hc xs,if_true,yA]
def Nb(c:v11->V U)(ys:V v11)(hq:rowOf X K=some q)(hs:lD q off (k*sz)=some cs)(hl:k=ys.length)(hc:rY cs=(ys.map c).flatten):wV X sz (.sl K off k k)=some (ys.length,(ys.map c).flatten):=by subst hl;simp[wV,hq,hs,hc]
def aX{a b:Nat}(h:T.inf t=some (a,b,z)):cT T t=some a:=by simp[cT,h]
def vo{st:Nat}(h:gt X.h K=some (.vec q e sz st)):B0 X K st=some (q,e,sz):=by
 have b:Nat.beq st st=true:=by simp[beq_eq]
 simp[B0,h,b,zC]
def zbq{st m:Nat}(hd:T.und t=some (.slice e))(h:gt X.h K=some (.vec q e' sz st)):lenU T X t (.vl K st 0 m)=some (.int .i64 m):=by
 have b:Nat.beq st st=true:=by simp[beq_eq]
 simp[lenU,hd,cM,h,B.st,b,zC]
end
def zd(k:IntKind)(a b:Int):kS .add k a k b=some (.int k (k.wrap (a+b))):=by simp[kS]
def zbp(k:IntKind)(a b:Int):kS .sub k a k b=some (.int k (k.wrap (a-b))):=by simp[kS]
def ZP(k:IntKind)(a b:Int):kS .mul k a k b=some (.int k (k.wrap (a*b))):=by simp[kS]
def qz(k:IntKind){a b:Int}(h:¬ b=0):kS .quo k a k b=some (.int k (k.wrap (a.tdiv b))):=by simp[kS,h]
def zbn(k:IntKind){a b:Int}(h:¬ b=0):kS .rem k a k b=some (.int k (a.tmod b)):=by simp[kS,h]
def bz(k:IntKind)(a b:Int):kS .eql k a k b=some (.bool (a==b)):=by simp[kS]
def ZO(k:IntKind)(a b:Int):kS .neq k a k b=some (.bool (a != b)):=by simp[kS]
def ZQ(k:IntKind)(a b:Int):kS .lss k a k b=some (.bool (decide (a<b))):=by simp[kS]
def ZR(k:IntKind)(a b:Int):kS .leq k a k b=some (.bool (decide (a<=b))):=by simp[kS]
def ZS(k:IntKind)(a b:Int):kS .gtr k a k b=some (.bool (decide (a>b))):=by simp[kS]
def ZT(k:IntKind)(a b:Int):kS .geq k a k b=some (.bool (decide (a>=b))):=by simp[kS]
def Gh.row{n0:Nat}{tm:V U}{X:Sg}{K:Nat}{q q':V U}{e:TypeId}(hg:gt X.h K=some (.row q e))(hk:okL q'=true)(fU:∀x vs,x.X=X->jY x->bB x q vs->bB x q' vs):Gh n0 tm X tm ⟨ug X.h K (.row q' e),X.nx⟩:=fun F x tv hx hr hf he=>by
 subst hx
 let y:Cx:=⟨x.Y,⟨ug x.X.h K (.row q' e),x.X.nx⟩,x.s⟩
 have G0:∀k,gt y.X.h k=if K=k then some (.row q' e)else gt x.X.h k:=fun k=>by show gt (ug x.X.h K (.row q' e)) k=_;rw[R8,hg];rfl
 have gI:Mo x.X.nx x y:=⟨fun k _ h2=>⟨h2,fun b hb=>by rw[G0]at hb;by_cases ek:K=k;subst ek;simp[if_true,zA]at hb;subst hb;exact⟨_,hg,zF _,fun _=>⟨rfl,fun l e sz st h=>by cases h⟩⟩;simp[ek,if_false]at hb;exact⟨b,hb,zF _,fun _=>⟨rfl,fun l e sz st h=>⟨l,h⟩⟩⟩⟩,fun _ _ _ h=>h⟩;refine⟨y,fun m w hf=>bG.refl hf,rfl,⟨fun k b hb=>?_,fun k k' b b' i hb cP=>?_,hr.bd⟩,fun i b J=>?_,gI.ke.E he.bel he,fun u v hb hr=>gI.ke u v (aD.bel u v hr) hr⟩;rw[G0]at hb;by_cases ek:K=k;subst ek;simp[if_true,zA]at hb;subst hb;have⟨h1,k1,i,l',e1,e2,e3⟩:=hr.ok K _ hg;have:=fU x l' rfl hr e3;exact⟨h1,hk,i,l',e1,e2,gI.ke.E this.bel this⟩;simp[ek,if_false]at hb;have⟨h1,h2⟩:=hr.ok k b hb;exact⟨h1,h2.mono gI rfl fun _ _ _ h=>h⟩;have old:∀k b,gt y.X.h k=some b->∃c,gt x.X.h k=some c:=fun k b hb=>by rw[G0]at hb;by_cases ek:K=k;subst ek;exact⟨_,hg⟩;simp[ek,if_false]at hb;exact⟨b,hb⟩
 have⟨c,hc⟩:=old k b hb;have⟨c',mV⟩:=old k' b' cP;exact hr.inj k k' c c' i hc mV;have⟨h1,h2⟩:=hf i b J;refine⟨h1,fun k c hc=>?_⟩;rw[G0]at hc;by_cases ek:K=k;subst ek;exact h2 _ _ hg;simp[ek,if_false]at hc;exact h2 k c hc
def Gh.fresh{n0:Nat}{tm:V U}{X:Sg}(e:TypeId)(sz:Nat)(dU:0<sz)(h0:n0<=X.nx):Gh n0 tm X tm (newU X (.vec [] e sz 0)):=fun F x tv hx hr hf he=>by
 subst hx;have ho:=jd hr e sz dU;exact⟨⟨mQ x.Y x.X.nx none,newU x.X (.vec [] e sz 0),x.s⟩,fun m w hf=>bG.refl hf,rfl,ho.h,ho.fr F hf,ho.mo.ke.E he.bel he,ho.mo.ke.le h0⟩
def vP{n0:Nat}{tm:V U}{X:Sg}(K i:Nat){q:V U}{e0:TypeId}(e:TypeId)(sz:Nat)(dU:0<sz)(h0:n0<=X.nx)(hg:gt X.h K=some (.row q e0))(hi:nth q i=some .nils):Gh n0 tm X tm ⟨ug (newU X (.vec [] e sz 0)).h K (.row (q.set i (.vl X.nx 0 0 0)) e0),X.nx+1⟩:=fun F x tv hx hr hf he=>by
 subst hx;have hK:=(hr.ok K _ hg).1;have⟨_,k1,_⟩:=hr.ok K _ hg;have ho:=jd hr e sz dU;rw[jD]at hi
 let y:Cx:=⟨mQ x.Y x.X.nx none,newU x.X (.vec [] e sz 0),x.s⟩
 have PA:gt y.X.h K=some (.row q e0):=by show gt ((x.X.nx,_)::x.X.h) K=_;rw[eN,if_neg (by omega),hg]
 let z:Cx:=⟨y.Y,⟨ug y.X.h K (.row (q.set i (.vl x.X.nx 0 0 0)) e0),y.X.nx⟩,y.s⟩
 have G0:∀k,gt z.X.h k=if K=k then some (.row (q.set i (.vl x.X.nx 0 0 0)) e0)else gt y.X.h k:=fun k=>by show gt (ug y.X.h K _) k=_;rw[R8,PA];rfl
 have gI:Mo y.X.nx y z:=⟨fun k _ h2=>⟨h2,fun b hb=>by rw[G0]at hb;by_cases ek:K=k;subst ek;simp[if_true,zA]at hb;subst hb;exact⟨_,PA,zF _,fun _=>⟨rfl,fun l e sz st h=>by cases h⟩⟩;simp[ek,if_false]at hb;exact⟨b,hb,zF _,fun _=>⟨rfl,fun l e sz st h=>⟨l,h⟩⟩⟩⟩,fun _ _ _ h=>h⟩;have hey:=ho.mo.ke.E he.bel he;have hfy:=ho.fr F hf;refine⟨z,fun m w hf=>bG.refl hf,rfl,⟨fun k b hb=>?_,fun k k' b b' j hb cP=>?_,ho.h.bd⟩,fun j b J=>?_,gI.ke.E hey.bel hey,fun u v hb hr=>gI.ke u v (aD.bel u v (ho.mo.ke.le h0 u v hb hr)) (ho.mo.ke.le h0 u v hb hr)⟩;rw[G0]at hb;by_cases ek:K=k;subst ek;simp[if_true,zA]at hb;subst hb;have⟨h1,k1,j,l',e1,e2,e3⟩:=ho.h.ok K _ PA;refine⟨h1,?_,j,l',e1,e2,?_⟩;refine(M9 _).2 fun u hu=>?_;rcases List.mem_or_eq_of_mem_set hu with h |h
 exact(M9 q).1 k1 u h;subst h;rfl;have⟨v,h3,h4⟩:=e3.get hi;simp[aD]at h4;subst h4;have:=e3.set i (nl (x:=x) (e:=e) (sz:=sz) (o:=none) (by simp));rw[z1l h3]at this;exact gI.ke.E this.bel this;simp[ek,if_false]at hb;have⟨h1,h2⟩:=ho.h.ok k b hb;exact⟨h1,h2.mono gI rfl fun _ _ _ h=>h⟩;have old:∀k b,gt z.X.h k=some b->∃c,gt y.X.h k=some c:=fun k b hb=>by rw[G0]at hb;by_cases ek:K=k;subst ek;exact⟨_,PA⟩;simp[ek,if_false]at hb;exact⟨b,hb⟩
 have⟨c,hc⟩:=old k b hb;have⟨c',mV⟩:=old k' b' cP;exact ho.h.inj k k' c c' j hc mV;have⟨h1,h2⟩:=hfy j b J;refine⟨h1,fun k c hc=>?_⟩;rw[G0]at hc;by_cases ek:K=k;subst ek;exact h2 _ _ PA;simp[ek,if_false]at hc;exact h2 k c hc
def m9(k:IntKind)(x:Int):(cI k x).length=1:=rfl
def NW(x:V Xv):(cS x).length=1:=rfl
def RL{v11:Type}(c:v11->V U)(x:V v11):(cL c x).length=1:=rfl
section
variable{T:Tb}{X X':Sg}{n:Nat}{l:V (Nat×U)}{u v w:U}
def zca{a b:V Xv}(h:a.length+b.length<=9223372036854775807):IP .add ⟨⟨a⟩⟩ ⟨⟨b⟩⟩=some (.string ⟨(a++b).toArray⟩):=by
 have:¬ (((a.length+b.length:Nat):Int)>9223372036854775807):=by omega
 simp only[IP,this,if_false]
end
def b7.post{P:H0}{f:FuncId}{args:V U}{X:Sg}{R R':U->Sg->Prop}(h:b7 P f args X R)(hg:∀u X1,R u X1->∃u' Q5,X.nx<=Q5.nx/\Gh X.nx [u] X1 [u'] Q5/\R' u' Q5):b7 P f args X R':=fun F x vs m w cargs hx hh k9 he dR bW=>by
 refine(h F x vs m w cargs hx hh k9 he dR bW).mono ?_;rintro e w₁ ⟨y,aK,u,v,cv,h1,h2,h3,h4,h5,h6,h7,h8,h9⟩;have⟨u',Q5,g1,g2,g3⟩:=hg u y.X h2;have⟨z,z1,z2,z3,z4,z5,z6⟩:=g2 F y [v] rfl h5 h6 (bB.cons h7 (bB.nil y));have⟨v0,VV,e0,z7,_⟩:=z5.inv;cases e0;have cW:=z1 aK w₁ h3.fits;exact⟨z,aK,u',v,cv,h1,z2 ▸ g3,h3.trans cW,h4.ext (aI.refl _ _) cW.nx,z3,z4,z7,by rw[hx]at h8 ⊢;exact h8.trans z6,by rw[hx,z2];exact g1⟩
mutual
def O'(Z:Nat->Nat):(u:U)->bA 0 u->rU Z u=u
 |.ptr k _ _,h=>by simp[bA]at h
 |.sl k _ _ _,h=>by simp[bA]at h
 |.vl k _ _ _,h=>by simp[bA]at h
 |.map k,h=>by simp[bA]at h
 |.iptr l,h=>by simp[bA]at h;simp[rU,MG Z l h]
 |.isl t l,h=>by simp[bA]at h;simp[rU,de Z l h]
 |.fn f a b,h=>by simp[bA]at h;simp[rU,MG Z a h.1,MG Z b h.2]
 |.agg l,h=>by simp[bA]at h;simp[rU,MG Z l h]
 |.tup l,h=>by simp[bA]at h;simp[rU,MG Z l h]
 |.junk,_=>rfl|.bool _,_=>rfl
 |.int _ _,_=>rfl|.str _,_=>rfl
 |.nilp,_=>rfl|.nils,_=>rfl
 |.nilm,_=>rfl|.nilf,_=>rfl
 |.nili,_=>rfl
def MG(Z:Nat->Nat):(l:V U)->aM 0 l->iQ Z l=l
 |[],_=>rfl|u::l,h=>by simp[aM]at h;simp[iQ,O' Z u h.1,MG Z l h.2]
def de(Z:Nat->Nat):(l:V (V U))->mR 0 l->yK Z l=l
 |[],_=>rfl|c::l,h=>by simp[mR]at h;simp[yK,MG Z c h.1,de Z l h.2]
end
section
variable{P:H0}{T:Tb}{aB r:V Oper}{o:Oper}{n:Nat}{l:V (Nat×U)}{X:Sg}{K:V U->Sg->Prop}
def jQ{C:PG}{f:FuncId}{args:V U}{R:U->Sg->Prop}(hw:cX aB (fr n l) o=some true)(hc:kN T (fr n l) o.op=some (f,args))(lN:b7 C.prog f args X R){d:Tmp}(he:o.dst=some d)(hd:Nat.blt d n=true)(hk:∀u X',R u X'->RU C T aB r (fr n ((d,u)::l)) X' K):RU C T aB (o::r) (fr n l) X K :=
 RU.call hw hc lN (fun u X' h=>by rw[he,uF (d:=some d) u hd];exact hk u X' h)
end
section
variable{Q:Exit->V U->Sg->Prop}{K:V U->Sg->Prop}{tm:V U}{X:Sg}{i j n0:Nat}{E:V U->Sg->Prop}
def q1(h:K tm X):C1 K Q .normal tm X:=h
def q2(h:Q (.exit i) tm X):C1 K Q (.exit i) tm X:=h
def q3(h:Q .ret tm X):C1 K Q .ret tm X:=h
def q4(h:Q .normal tm X):C5 i Q .normal tm X:=h
def q5(h:Q .ret tm X):C5 i Q .ret tm X:=h
def q6(h:Q .normal tm X):C5 i Q (.exit i) tm X:=Tz h
def q7(lM:¬ j=i)(h:Q (.exit j) tm X):C5 i Q (.exit j) tm X:=Tx lM h
def q8(h:∃tm' X',E tm' X'/\n0<=X'.nx/\Gh n0 tm X tm' X'):R1 n0 E Q .normal tm X:=h
def q9(h:Q .ret tm X):R1 n0 E Q .ret tm X:=h
def q0(h:Q (.exit i) tm X):R1 n0 E Q (.exit i) tm X:=h
end
def z84:∀{h:V (Nat×B)}{k:Nat}{b:B},gt h k=some b->ug h k b=h
 |[],k,b,hg=>by cases hg
 |(j,c)::h,k,b,hg=>by simp[gt,ug,beq_eq]at*;by_cases e:j=k;subst e;simp[yC,zC,zA]at*;rw[hg];simp[e,yB,zD]at*;rw[z84 hg]
variable{n:Nat}
def bG.trunc{m:Nm}{s:S}{w:PL}(hf:fY m s w){i:Nat}{l:V O}{e:Nat}(hl:lk s.h i=some (.inl (l,e,n+2)))(j:Nat):bG m s w m ⟨up s.h i (.inl (l.take j,e,n+2)),s.nx⟩ w:=by
 refine bG.write hf hl rfl (fun k hk=>rfl) rfl rfl rfl rfl (zF _) fun m' ha=>?_;have⟨pre,rest,h1,h2,h3⟩:=(hf m' ha).ok i _ hl;refine⟨pre,aE m' (l.drop j)++rest,?_,h2,?_⟩;rw[h1];congr 3;have:aE m' l=aE m' (l.take j)++aE m' (l.drop j):=by rw[<-x3,List.take_append_drop]
 rw[this];simp[zT];have e1:(aE m' (l.drop j)).length=l.length-j:=by rw[kE];simp
 rw[zU,e1,List.length_take];omega
def Gh.trunc{n0:Nat}{tm:V U}{X:Sg}{K:Nat}{l:V U}{e:TypeId}{sz st:Nat}(hg:gt X.h K=some (.vec l e sz st))(j:Nat):Gh n0 tm X tm ⟨ug X.h K (.vec (l.take j) e sz st),X.nx⟩:=fun F x tv hx hr hf he=>by
 subst hx;have⟨_,k1,k2,k3⟩:=hr.ok K _ hg;rcases k3 with⟨rfl,fD⟩|⟨i,lv,h1,h2,h3⟩;rw[List.take_nil,z84 hg];exact⟨x,fun m w hf=>bG.refl hf,rfl,hr,hf,he,Ke.refl _ _⟩;have ho:=XY hr (c:=.inl (lv.take j,e,sz+2)) (bK:=.vec (l.take j) e sz st) hg h1 h2 rfl (by rintro l e sz st h;cases h;exact⟨_,rfl⟩) fun y q1 q2 hm=>⟨O5 k1 j,k2,.inr ⟨i,lv.take j,q1,q2,(hm.ke.E h3.bel h3).take j⟩⟩
 refine⟨_,fun m w hf=>bG.trunc hf h2 j,rfl,ho.h,ho.fr F hf,?_,?_⟩;exact he.mono ho.mo he.bel;exact fun u v hb hv=>aD.mono ho.mo u v (aD.bel u v hv) hv
variable{v11:Type}
variable{n0:Nat}
variable{tm:V U}
variable{X:Sg}
variable{K:Nat}
variable{xs:V v11}
variable{e:TypeId}
variable{sz:Nat}
def Gh.truncL(c:v11->V U){st:Nat}(hc:∀x,(c x).length=sz)(hg:gt X.h K=some (.vec (xs.map c).flatten e sz st))(j:Nat):Gh n0 tm X tm ⟨ug X.h K (.vec ((xs.take j).map c).flatten e sz st),X.nx⟩:=by
 have:=Gh.trunc (n0:=n0) (tm:=tm) hg (j*sz)
 rwa [ii hc]at this
def Gl(p:Nat->D1):∀(h:V (Nat×B))(k:Nat),gt (h.filter fun x=>p x.1) k=if p k then gt h k else none
 |[],k=>by simp[gt]
 |(j,b)::h,k=>by
  rw[List.filter_cons];cases hp:p j with
  |true=>simp[if_true,eN,Gl p h k];by_cases e:j=k;subst e;simp[hp];simp[e]|false=>simp[Bool.false_eq_true,if_false,Gl p h k,eN];by_cases e:j=k;subst e;simp[hp];simp[e]
def LP(p:Nat->D1):Gh n0 tm X tm ⟨X.h.filter fun x=>p x.1,X.nx⟩:=fun F x tv hx hr hf he=>by
 subst hx;have mo:∀n,Mo n x ⟨x.Y,⟨x.X.h.filter fun y=>p y.1,x.X.nx⟩,x.s⟩:=fun n=>⟨fun k _ h2=>⟨h2,fun b' cP=>by simp only[Gl]at cP;split at cP;exact⟨b',cP,zF _,fun _=>⟨rfl,fun l e sz st h=>⟨l,h⟩⟩⟩;cases cP⟩,fun _ _ _ h=>h⟩;refine⟨⟨x.Y,⟨x.X.h.filter fun y=>p y.1,x.X.nx⟩,x.s⟩,fun m w hf=>bG.refl hf,rfl,⟨?_,?_,hr.bd⟩,?_,he.mono (mo _) he.bel,fun u v hb hv=>aD.mono (mo _) u v (aD.bel u v hv) hv⟩;intro k b hb;simp only[Gl]at hb;split at hb;obtain⟨h1,h2⟩:=hr.ok k b hb;exact⟨h1,h2.mono (mo _) rfl (fun i c _ h=>h)⟩;cases hb;intro k k' b b' i hb cP h1 h2;simp only[Gl]at hb cP;split at hb;split at cP;exact hr.inj k k' b b' i hb cP h1 h2;cases cP;cases hb;intro i b J;obtain⟨h1,h2⟩:=hf i b J;refine⟨h1,fun k c hc=>?_⟩;simp only[Gl]at hc;split at hc;exact h2 k c hc;cases hc
def m6{v11:Type}(l:V v11)(off n:Nat)(i:Int):M v11:=if 0<=i/\i<(n:Int)then l[off+i.toNat]? else none
variable{off:Nat}
variable{i:Int}
variable{x:v11}
def Y2{l:V v11}(h:m6 l off n i=some x):0<=i/\i<(n:Int)/\l[off+i.toNat]? = some x:=by unfold m6 at h;split at h;rename_i hi;exact⟨hi.1,hi.2,h⟩;cases h
section
variable{v11:Type}{c:v11->V U}{sz:Nat}(hc:∀x,(c x).length=sz)
include hc
def af{xs:V v11}{j:Nat}{x:v11}(h:xs[j]? = some x):lD (xs.map c).flatten (j*sz) sz=some (c x):=by
 have hj:=(zG.1 h).1;unfold lD;rw[MI hc,jo hc];have e:xs.drop j=x::xs.drop (j+1):=by rw[List.drop_eq_getElem_cons hj];congr;exact(zG.1 h).2
 rw[e,if_pos (by rw[<-Nat.succ_mul];exact Nat.mul_le_mul_right _ hj)];simp[zQ,List.flatten_cons];have:=hc x;rw[<-this,List.take_left'];rfl
def dw{xs:V v11}{j:Nat}(h:j<xs.length)(x:v11):qB (xs.map c).flatten (j*sz) (c x)=some ((xs.set j x).map c).flatten:=by unfold qB;rw[MI hc,hc,if_pos (by rw[<-Nat.succ_mul];exact Nat.mul_le_mul_right _ h),<-Nat.succ_mul,jo hc,ii hc,List.set_eq_take_append_cons_drop,if_pos h];simp
end
section
variable{T:Tb}{X X':Sg}{n:Nat}{l:V (Nat×U)}{u v w:U}
def z2y{q:V U}{j:Nat}{u:U}(h:lD q j 1=some [u]):nth q j=some u:=by
 unfold lD at h;split at h;rename_i hj;simp[zA]at h;rw[jD];have:((q.drop j).take 1)[0]? = some u:=by rw[h];rfl
 simpa using this;cases h
variable{m:Nat}
def Ee(c:v11->V U){t e':TypeId}{st:Nat}{y:v11}{o z:EW}{cs:V U}{h':V (Nat×B)}(hs:cT T t=some sz)(hc:∀x,(c x).length=sz)(ho:bZ n l o=some (.ptr K st (off*sz+i.toNat*sz)))(hz:bZ n l z=some v)(o9:xY v=some cs)(hk:okL cs=true)(hl:Nat.beq cs.length sz=true)(hy:rY cs=c y)(hv:gt X.h K=some (.vec (xs.map c).flatten e' sz st))(hx:m6 xs off m i=some x)(E4:ug X.h K (.vec ((xs.set (off+i.toNat) y).map c).flatten e' sz st)=h'):bO T X (fr n l) (.store t o z)=some (.junk,⟨h',X.nx⟩):=by
 subst E4;have hb:Nat.beq st st=true:=by simp
 have hj:=(zG.1 (Y2 hx).2.2).1;have hp:=dw hc hj y;rw[Nat.add_mul]at hp;exact HZ rfl rfl (by simp[oY,eY ho,eY hz,XC,hs,o9,hl,hk,zC,cellsOf,hv,hb,GS,hy,hp,M6])
def o7(h:aC xs i=some x):m6 xs 0 xs.length i=some x:=by have⟨h1,h2,h3⟩:=Y3 h;unfold m6;rw[if_pos ⟨h1,h2⟩,Nat.zero_add];exact h3
def NQ(c:v11->V U){t e':TypeId}{st a h q:Nat}{lo hi:M O}(hd:T.und t=some (.slice e))(hs:cT T e=some sz)(hc:∀x,(c x).length=sz)(hv:B0 X K st=some ((xs.map c).flatten,e',sz))(hm:off+m<=xs.length)(hb:i8 m m lo hi none=some (a,h,q)):RC T X t (.vl K st off m) lo hi none=some (.vl K st (off+a) (h-a)):=by
 have b:Nat.beq sz sz=true:=by simp[beq_eq]
 have hl:(off+m)*sz<=(xs.map c).flatten.length:=by rw[MI hc];exact Nat.mul_le_mul_right _ hm
 simp only[RC,hd,hs,hv,b,zC,hb,hl,if_true]
def qo(c:v11->V U){st:Nat}(hc:∀x,(c x).length=sz)(hv:B0 X K st=some ((xs.map c).flatten,e,sz))(hm:off+m<=xs.length):wV X sz (.vl K st off m)=some (((xs.drop off).take m).length,(((xs.drop off).take m).map c).flatten):=by
 have b:Nat.beq sz sz=true:=by simp[beq_eq]
 have hl:off*sz+m*sz<=(xs.map c).flatten.length:=by rw[MI hc,<-Nat.add_mul];exact Nat.mul_le_mul_right _ hm
 have e1:((xs.drop off).take m).length=m:=by simp;omega
 simp only[wV,hv,b,zC,lD,hl,if_true,jo hc,ii hc,e1]
end
class Dy(a b:Nat):Prop where
 h:a<b
instance{b:Nat}:Dy 0 (b+1):=⟨Nat.succ_pos _⟩
instance{a b:Nat}[q:Dy a b]:Dy (a+1) (b+1):=⟨Nat.succ_lt_succ q.h⟩
class BF{v11:Type}(c:v11->V U):Prop where
 h:∀n x,aM n (c x)
instance(k:IntKind):BF (cI k):=⟨fun n x=>O0 n k x⟩
instance:BF cS:=⟨zb2⟩
instance{v11:Type}(c:v11->V U)[q:BF c]:BF (cL c):=⟨fun n x=>Dq n (q.h n) x⟩
class BU(n:Nat)(u:U):Prop where
 h:bA n u
class eQ(n:Nat)(l:V U):Prop where
 h:aM n l
instance(n:Nat):eQ n []:=⟨by simp[aM]⟩
instance(n:Nat)(u:U)(l:V U)[a:BU n u][b:eQ n l]:eQ n (u::l):=⟨by simp[aM];exact⟨a.h,b.h⟩⟩
instance{v11:Type}(n:Nat)(c:v11->V U)(l:V v11)[q:BF c]:eQ n (l.map c).flatten:=⟨w7 n (q.h n) l⟩
instance(n:Nat)(b:D1):BU n (.bool b):=⟨by simp[bA]⟩
instance(n:Nat)(k:IntKind)(z:Int):BU n (.int k z):=⟨by simp[bA]⟩
instance(n:Nat)(s:V Xv):BU n (.str s):=⟨by simp[bA]⟩
instance(n:Nat):BU n .nils:=⟨by simp[bA]⟩
instance(n k st off:Nat)[q:Dy k n]:BU n (.ptr k st off):=⟨by simp[bA];exact q.h⟩
instance(n k off m c:Nat)[q:Dy k n]:BU n (.sl k off m c):=⟨by simp[bA];exact q.h⟩
instance(n k st off m:Nat)[q:Dy k n]:BU n (.vl k st off m):=⟨by simp[bA];exact q.h⟩
instance(n k:Nat)[q:Dy k n]:BU n (.map k):=⟨by simp[bA];exact q.h⟩
instance(n:Nat)(l:V U)[q:eQ n l]:BU n (.iptr l):=⟨by simp[bA];exact q.h⟩
instance(n:Nat)(l:V U)[q:eQ n l]:BU n (.agg l):=⟨by simp[bA];exact q.h⟩
instance(n:Nat)(l:V U)[q:eQ n l]:BU n (.tup l):=⟨by simp[bA];exact q.h⟩
instance(n:Nat)(f:Fn)(a b:V U)[p:eQ n a][q:eQ n b]:BU n (.fn f a b):=⟨by simp[bA];exact⟨p.h,q.h⟩⟩
instance{v11:Type}(n:Nat)(t:D1)(c:v11->V U)(l:V v11)[q:BF c]:BU n (.isl t (l.map c)):=⟨by simp[bA];exact uH c (q.h n) l⟩
instance(n:Nat)(t:D1):BU n (.isl t []):=⟨by simp[bA,mR]⟩
class BS(n:Nat)(l:V (Nat×U)):Prop where
 h:BelS n l
instance(n:Nat):BS n []:=⟨by simp[BelS]⟩
instance(n i:Nat)(u:U)(l:V (Nat×U))[a:BU n u][b:BS n l]:BS n ((i,u)::l):=⟨by simp[BelS];exact⟨a.h,b.h⟩⟩
class Jx{v11:Type}(f:v11->U):Prop where
 h:∀n x,bA n (f x)
instance(k:IntKind):Jx (fun x:Int=>U.int k x):=⟨fun n x=>by simp[bA]⟩
class BB(n:Nat)(b:B):Prop where
 h:BelB n b
instance(n:Nat)(l:V U)(e:TypeId)[q:eQ n l]:BB n (.row l e):=⟨by simp[BelB];exact q.h⟩
instance(n:Nat)(l:V U)(e:TypeId)(sz st:Nat)[q:eQ n l]:BB n (.vec l e sz st):=⟨by simp[BelB];exact q.h⟩
class BH(n:Nat)(h:V (Nat×B)):Prop where
 h:GN n h
instance(n:Nat):BH n []:=⟨by simp[GN]⟩
instance(n k:Nat)(b:B)(h:V (Nat×B))[p:BB n b][q:BH n h]:BH n ((k,b)::h):=⟨by simp[GN];exact⟨p.h,q.h⟩⟩
def Gh.toC{n1:Nat}{l l':V (Nat×U)}{h':V (Nat×B)}(ht:D9 l l')(hs:Vx.cut n1 X.h=h')(h1:n0<=n1)(h2:n1<=X.nx)[hb:BS n1 l'][hh:BH n1 h']:Gh n0 (fr n l) X (fr n l') ⟨h',n1⟩:=Gh.toS ht (by rw[hs]) h1 h2 hb.h hh.h
def pU(u:U)(ht:tm=[u])[q:BU 0 u]:Gh 0 tm X [u] ⟨[],0⟩:=by
 subst ht;refine Gh.to (n1:=0) [] rfl ?_ (zF _) (Nat.zero_le _) (by simp only[aM];exact⟨q.h,trivial⟩) (by simp[GN]);have:∀h:V (Nat×B),Vx.cut 0 h=[]:=by
  intro h;induction h with
  |nil=>rfl|cons x h ih=>have⟨k,b⟩:=x;simp[Vx.cut,ih];rfl
 rw[this]
variable{P:H0}
variable{f:FuncId}
def Ec{args:V U}{u:U}(h:b7 P f args ⟨[],0⟩ (fun u' _=>u'=u/\bA 0 u'))[q:eQ 0 args](X:Sg):b7 P f args X (fun u' X'=>u'=u/\X'=X):=b7.pure1 h q.h X
def LO{args args':V U}{u:U}(h:rP args args')(lN:∀s,b7 P f args' s (fun u' X'=>u'=u/\X'=s))(X:Sg):b7 P f args X (fun u' X'=>u'=u/\X'=X):=b7.ghost (Gh.wk h) (zF _) (lN X)
class Stp(A:Prop)(B:outParam Prop):Prop where
 h:B->A
section
variable{Q:Exit->V U->Sg->Prop}{K:V U->Sg->Prop}{tm:V U}{X:Sg}{i j n0:Nat}{E:V U->Sg->Prop}
instance:Stp (C1 K Q .normal tm X) (K tm X):=⟨q1⟩
instance:Stp (C1 K Q (.exit i) tm X) (Q (.exit i) tm X):=⟨q2⟩
instance:Stp (C1 K Q .ret tm X) (Q .ret tm X):=⟨q3⟩
instance:Stp (C5 i Q .normal tm X) (Q .normal tm X):=⟨q4⟩
instance:Stp (C5 i Q .ret tm X) (Q .ret tm X):=⟨q5⟩
instance:Stp (C5 i Q (.exit i) tm X) (Q .normal tm X):=⟨q6⟩
instance:Stp (R1 n0 E Q .normal tm X) (∃tm' X',E tm' X'/\n0<=X'.nx/\Gh n0 tm X tm' X'):=⟨q8⟩
instance:Stp (R1 n0 E Q .ret tm X) (Q .ret tm X):=⟨q9⟩
end
variable{C:PG}
def sq{Q:Exit->V U->Sg->Prop}{p q:Code}(h:WPU C n0 p tm X (C1 (fun tm X=>WPU C n0 q tm X Q) Q)):WPU C n0 (.seq p q) tm X Q:=WPU.seq h
section
variable{P:H0}{T:Tb}{aB r:V Oper}{n:Nat}{l:V (Nat×U)}{X:Sg}{K:V U->Sg->Prop}{u:U}
def RS.mv{o:Oper}{x:EW}(hw:cX aB (fr n l) o=some true)(ho:o.op=.move x)(hx:bZ n l x=some u){d:Tmp}(he:o.dst=some d)(hk:RU C T aB r (fr n ((d,u)::l)) X K)(hd:Nat.blt d n=true:=by rfl):RU C T aB (o::r) (fr n l) X K:=RS.op hw (by rw[ho];exact i7 hx) he hd hk
def RS.as{o:Oper}{x:EW}(hw:cX aB (fr n l) o=some true)(ho:o.op=.assign x)(hx:bZ n l x=some u){d:Tmp}(he:o.dst=some d)(hk:RU C T aB r (fr n ((d,u)::l)) X K)(hd:Nat.blt d n=true:=by rfl):RU C T aB (o::r) (fr n l) X K:=RS.op hw (by rw[ho];exact fp hx) he hd hk
end
section
variable{P:H0}{T:Tb}{aB r:V Oper}{o:Oper}{n:Nat}{l:V (Nat×U)}{X:Sg}{bD:V RK}{K:V RK->V U->Sg->Prop}{u:U}
def RD.mv{x:EW}(hw:cX aB (fr n l) o=some true)(ho:o.op=.move x)(hx:bZ n l x=some u){d:Tmp}(he:o.dst=some d)(hk:RH P T aB r (fr n ((d,u)::l)) X ((1,⟨fr n l,o,u,false,false,X,X⟩)::bD) K)(hd:Nat.blt d n=true:=by rfl):RH P T aB (o::r) (fr n l) X bD K:=RD.look hw (by rw[ho];exact i7 hx) he hd hk
end
class NeN(a b:Nat):Prop where
 h:¬ a=b
def gq{A B:Prop}[s:Stp A B](h:B):A:=s.h h
def FN(T:Tb):V Field->M (V (Nat×Nat))
 |[]=>some []|f::fs=>match cT T f.type,FN T fs with
  |some n,some l=>some ((f.offset,n)::l)|_,_=>none
def z6u{T:Tb}:∀{fs:V Field}{pl:V (Nat×Nat)},FN T fs=some pl->J1 T fs=true/\∀i,MB T fs i=nth pl i
 |[],pl,h=>by simp[FN]at h;subst h;exact⟨rfl,fun i=>rfl⟩
 |f::fs,pl,h=>by
  simp[FN]at h;rcases h1:cT T f.type with _|n;simp[h1]at h;rcases h2:FN T fs with _|l;simp[h1,h2]at h;simp[h1,h2,zA]at h;subst h;have⟨g1,g2⟩:=z6u h2;refine⟨by simp[J1,h1,g1],fun i=>?_⟩;cases i with
  |zero=>simp[MB,nth,h1]|succ i=>exact g2 i
structure BdT(T:Tb)(t:TypeId)(zu:V U)(pl:V (Nat×Nat)):Prop where
 bd:∀{qs:V (Nat×U)}{cs:V U},uX (nth pl) zu qs=some cs->okL cs=true->Fh T t qs=some (.agg cs)
variable{t:TypeId}
variable{b:Nat}
variable{z:O}
variable{zu:V U}
def AN{T:Tb}{fs:H2 Field}{a:Nat}{pl:V (Nat×Nat)}(hd:T.und t=some (.struct fs))(hi:T.inf t=some (a,b,z))(hz:qC z.cells.toList=some zu)(hp:FN T fs.toList=some pl):BdT T t zu pl:=⟨fun{qs cs} hf hk=>by
 have⟨g1,g2⟩:=z6u hp;have:MB T fs.toList=nth pl:=funext g2;simp[Fh,hi,hz,hd,g1,zC,this,hf,hk]⟩
section
variable{T:Tb}{X X':Sg}{n:Nat}{l:V (Nat×U)}{u v w:U}
variable{ps:H2 (Nat×EW)}
variable{qs:V (Nat×U)}
variable{cs:V U}
def qp{pl:V (Nat×Nat)}(h:BdT T t zu pl)(he:I2 n l ps.toList=some qs)(hf:uX (nth pl) zu qs=some cs)(hk:okL cs=true):bO T X (fr n l) (.build t ps)=some (.agg cs,X):=Nr he (h.bd hf hk)
def tH{k:Nat}(hd:T.und t=some (.slice e))(hi:T.inf e=some (sz,b,z))(h:I2 n l ps.toList=some qs)(h1:Nat.ble (k*sz) 16777216=true)(h2:Nat.ble k 16777216=true)(h3:Nat.beq z.cells.toList.length sz=true)(hz:qC z.cells.toList=some zu)(hf:uX (fun i=>some (i*sz,sz)) (w4 zu k) qs=some cs)(hk:okL cs=true):bO T X (fr n l) (.buildSlice t k ps)=some (.sl X.nx 0 k k,newU X (.row cs e)):=Sp h (by simp only[Oi,hd,hi,h1,h2,h3,zC,hz,hf,hk])
def B5.bs{k:Nat}{rs:V (V U)}(hd:T.und t=some (.slice e))(hi:T.inf e=some (sz,b,z))(h:I2 n l ps.toList=some qs)(h1:Nat.ble (k*sz) 16777216=true)(h2:Nat.ble k 16777216=true)(h3:Nat.beq z.cells.toList.length sz=true)(hz:qC z.cells.toList=some zu)(hf:uX (fun i=>some (i*sz,sz)) (w4 zu k) qs=some cs)(hk:okL cs=true)(hl:Nat.ble (k*sz) cs.length=true)(hr:cE sz k cs=rs)[hb:eQ 0 cs]:B5 P T (fr n l) (.buildSlice t k ps) (.isl false rs):=
 .inr ⟨k,sz,cs,e,fun X=>tH hd hi h h1 h2 h3 hz hf hk,zY hl,hb.h,by rw[hr]⟩
variable{a:Int}
variable{k':IntKind}
def zbo(k:IntKind){b:Int}(h:¬ b<0):kS .shr k a k' b=some (.int k (a.fdiv (2^(min b.toNat k.bits)))):=by simp[kS,h]
def ZN(k:IntKind){b:Int}(h:¬ b<0):kS .shl k a k' b=some (.int k (k.wrap (a*2^(min b.toNat k.bits)))):=by simp[kS,h]
def Ml(c:v11->V U)(z:v11){x y:EW}{k:IntKind}{by_:Nat}{zv:O}(hx:bZ n l x=some (.int k a))(hy:bZ n l y=some (.int k' a))(hd:T.und t=some (.slice e))(hi:T.inf e=some (sz,by_,zv))(hz:qC zv.cells.toList=some zu)(hk:okL zu=true)(ss:rY zu=c z)(hl:Nat.beq zv.cells.toList.length sz=true)(hr:0<=a/\by_*a.toNat<=281474976710656/\a<=281474976710656):bO T X (fr n l) (.makeSlice t x y)=some (.sl X.nx 0 a.toNat a.toNat,newU X (.row ((List.replicate a.toNat z).map c).flatten e)):=by
 have V?:w4 (c z) a.toNat=((List.replicate a.toNat z).map c).flatten:=by simp[w4]
 refine So hx hy ?_;simp only[Ka,hd,hi,hz,hk,hl,zC,hr.1,hr.2.1,hr.2.2,Int.le_refl,and_self,if_true,ss,V?]
variable{m:Nat}
def DN{q:Nat}{k:IntKind}(hd:T.und t=some (.slice e))(hs:cT T e=some sz)(hv:cM X K 0=true)(hx:m6 xs 0 m i=some x):HC T X t (.sl K 0 m q) (.int k i)=some (.ptr K 0 (0*sz+i.toNat*sz)):=by have⟨h1,h2,_⟩:=Y2 hx;simp[HC,hd,hs,hv,zC,h1,h2,and_self,if_true,Nat.zero_mul]
def XJ(c:v11->V U){e':TypeId}{d:TypeDesc}{o:EW}(f:v11->U)(hd:T.und t=some d)(ha:sF d=false)(hc:∀x,c x=[f x])(ho:bZ n l o=some (.ptr K 0 (0*1+i.toNat*1)))(hv:gt X.h K=some (.row (xs.map c).flatten e'))(hx:m6 xs 0 m i=some x):bO T X (fr n l) (.load t o)=some (f x,X):=by refine LR rfl ?_;have hb:Nat.beq 0 0=true:=rfl;have hg:=af (c:=c) (sz:=1) (fun x=>by rw[hc];rfl) (Y2 hx).2.2;rw[hc,Nat.add_mul]at hg;simp only[qG,eY ho,cellsOf,hv,hb,zC,GX,hd,ha,zD,z2y hg]
def X7(c:v11->V U){e':TypeId}{y:v11}{o z:EW}{h':V (Nat×B)}(hs:cT T t=some sz)(hc:∀x,(c x).length=sz)(ho:bZ n l o=some (.ptr K 0 (0*sz+i.toNat*sz)))(hz:bZ n l z=some v)(o9:xY v=some cs)(hk:okL cs=true)(hy:cs=c y)(hv:gt X.h K=some (.row (xs.map c).flatten e'))(hx:m6 xs 0 m i=some x)(E4:ug X.h K (.row ((xs.set i.toNat y).map c).flatten e')=h'):bO T X (fr n l) (.store t o z)=some (.junk,⟨h',X.nx⟩):=by
 subst hy;subst E4;have hb:Nat.beq 0 0=true:=rfl;have uN:Nat.beq (c y).length sz=true:=by simp[hc]
 have hj:=(zG.1 (Y2 hx).2.2).1;have hp:=dw hc hj y;rw[Nat.add_mul,Nat.zero_add]at hp;exact HZ rfl rfl (by simp only[oY,eY ho,eY hz,XC,hs,o9,uN,hk,zC,cellsOf,hv,hb,GS,hp,M6])
def ZH{q:Nat}(hd:T.und t=some (.slice e))(h:cM X K 0=true):lenU T X t (.sl K off m q)=some (.int .i64 m):=by simp[lenU,hd,h,zC]
def XA{c:v11->V U}(hc:∀x,(c x).length=sz)(h:m=xs.length)(K:Nat)(e:TypeId):fz K (.row (xs.map c).flatten e) sz (.sl K 0 m m)=.isl false (xs.map c):=by
 subst h;have hl:0+xs.length*sz<=(xs.map c).flatten.length:=by rw[MI hc];omega
 have hk:Nat.beq K K=true:=by simp
 simp only[fz,hk,zC,hl,if_true,List.drop_zero,qq7 hc]
end
def b7.own1(c:v11->V U){ys:V v11}{a7:V U}[hc:BF c][ha:eQ 0 a7]{k:Nat}
  (h:b7 P f a7 ⟨[],0⟩ (fun u X'=>∃t',u=.vl k t' 0 ys.length/\X'=⟨[(k,.vec (ys.map c).flatten e sz t')],k+1⟩)) (X:Sg) (K:Nat) (hK:X.nx+k=K):
  b7 P f a7 X (fun u X'=>∃t',u=.vl K t' 0 ys.length/\X'=⟨(K,.vec (ys.map c).flatten e sz t')::X.h,K+1⟩):=by
 subst hK;have CV:∀l:V v11,aM 0 (l.map c).flatten:=fun l=>w7 0 (hc.h 0) l;have h1:=b7.frame [] h X (by simp) (by simp) ha.h (by intro k b hb;simp[gt]at hb);rw[MG _ _ ha.h]at h1;apply b7.post h1;rintro u X1 ⟨u0,Q6,⟨t',rfl,rfl⟩,_,rfl,rfl⟩;refine⟨.vl (X.nx+k) t' 0 ys.length,⟨(X.nx+k,.vec (ys.map c).flatten e sz t')::X.h,X.nx+k+1⟩,by simp;omega,?_,t',rfl,rfl⟩;have hs:Xh [] X ⟨[(k,.vec (ys.map c).flatten e sz t')],k+1⟩=⟨(X.nx+k,.vec (ys.map c).flatten e sz t')::IZ [] X.h,X.nx+k+1⟩:=by simp[Xh,AW,nm,rB,MG _ _ (CV ys)];omega
 rw[hs];have:=Gh.same (n0:=X.nx) (tm:=[rU (nm [] X.nx) (.vl k t' 0 ys.length)]) (X:=⟨(X.nx+k,.vec (ys.map c).flatten e sz t')::IZ [] X.h,X.nx+k+1⟩) ((X.nx+k,.vec (ys.map c).flatten e sz t')::X.h) (fun j=>by rw[eN,eN,Nw];by_cases hk:X.nx+k=j<;>simp[hk]);exact this
def Gh.rowW{q q':V U}(hg:gt X.h K=some (.row q e))(hk:okL q'=true)(h:rP q q'):Gh n0 tm X tm ⟨ug X.h K (.row q' e),X.nx⟩:=Gh.row hg hk fun x vs _ _ he=>⟨h.rel he.1,by rw[h.len];exact he.2⟩
def bothL{v11 I:Type}:V I->(D1->M (V v11))->M (V v11)
 |[],F=>match F true,F false with
  |some [],some []=>some []|_,_=>none
 |_::_,F=>F false
def z2j{I:Type}{l:V I}{F:D1->M (V v11)}{r:V v11}(h:bothL l F=some r)(z:D1)(hz:z=true->l=[]):F z=some r:=by cases l with|nil=>simp[bothL]at h;split at h;rename_i h1 h2;cases z;rw[h2];exact h;rw[h1];exact h;cases h|cons a l=>rcases z with _|_;exact h;have:=hz rfl;cases this
end Go.Vx
namespace Go.Vx
open Go Go.Rx
structure eI(K v09:Type) where
 es:V (K×v09×Nat)
 cl:Nat
def yT{K v09:Type}(eq:K->K->D1)(k:K):V (K×v09×Nat)->Nat->M (Nat×v09×Nat)
 |[],_=>none|e::es,i=>cond (eq k e.1) (some (i,e.2.1,e.2.2)) (yT eq k es (i+1))
def B1{K v09:Type}(v:v09):V (K×v09×Nat)->Nat->V (K×v09×Nat)
 |[],_=>[]|e::es,0=>(e.1,v,e.2.2)::es
 |e::es,i+1=>e::B1 v es i
def yM{K v09:Type}:eI K v09:=⟨[],0⟩
def tE{K v09:Type}(eq:K->K->D1)(m:eI K v09)(k:K):M v09:=(yT eq k m.es 0).map fun x=>x.2.1
def xV{K v09:Type}(eq:K->K->D1)(m:eI K v09)(k:K)(v:v09):eI K v09:=match yT eq k m.es 0 with
 |none=>⟨m.es++[(k,v,m.cl)],m.cl+1⟩|some (i,_)=>⟨B1 v m.es i,m.cl⟩
section
variable{K v09:Type}(kU:K->U)(vU:v09->U)
def mE(e:K×v09×Nat):ME:=⟨kU e.1,vU e.2.1,e.2.2⟩
def z6f(v:v09):∀(es:V (K×v09×Nat))(i:Nat),I1 (es.map (mE kU vU)) i (fun e=>{ e with val:=vU v })=(B1 v es i).map (mE kU vU)
 |[],i=>by cases i<;>simp[I1,B1]
 |e::es,0=>by simp[I1,B1,mE]
 |e::es,i+1=>by simp[I1,B1,z6f v es i]
structure VH(T:Tb)(kt:TypeId)(eq:K->K->D1)(kV:K->O):Prop where
 v:∀k,toV (kU k)=some (kV k)
 cmp:∀a b,eqv T 50 kt (kV a) (kV b)=some (eq a b)
 key:∀k,pJ T 50 kt (kV k)=true
 pl:∀k,plain (kV k)=true
 same:∀a b,eq a b=true->AT 50 (kV b) (kV a)=true
variable{kU vU}{T:Tb}{kt:TypeId}{eq:K->K->D1}{kV:K->O}(hk:VH kU T kt eq kV)
include hk
def xu(k:K):∀(es:V (K×v09×Nat))(i:Nat),C2 T kt (kV k) (es.map (mE kU vU)) i=some ((yT eq k es i).map fun x=>(x.1,vU x.2.1))
 |[],i=>rfl|e::es,i=>by simp[zQ,C2,mE,hk.v,hk.cmp,yT];rcases h:eq k e.1 with _|_;exact xu k es (i+1);simp
omit hk in
def z57(k:K):∀{es:V (K×v09×Nat)}{i j:Nat}{v:v09}{b:Nat},yT eq k es i=some (j,v,b)->i<=j/\∃k',es[j-i]? = some (k',v,b)/\eq k k'=true
 |[],i,j,v,b,h=>by simp[yT]at h
 |e::es,i,j,v,b,h=>by
  simp[yT]at h;cases he:eq k e.1 with
  |true=>rw[he]at h;simp[zC,zA,zB]at h;have⟨rfl,rfl,rfl⟩:=h;exact⟨zF _,e.1,by simp,he⟩
  |false=>rw[he]at h;simp[zD]at h;have⟨h1,k',h2,h3⟩:=z57 k h;refine⟨by omega,k',?_,h3⟩;rw[show j-i=(j-(i+1))+1 by omega];simpa using h2
variable{X:Sg}{n:Nat}{l:V (Nat×U)}{r:Nat}{m:eI K v09}{t et:TypeId}(hd:T.und t=some (.map kt et))(hg:gt X.h r=some (.map (m.es.map (mE kU vU)) m.cl))
include hd hg
variable{x:EW}
variable{k0:EW}
variable{k:K}
def zdl{a b:Nat}{z:O}{zv:v09}(hx:bZ n l x=some (.map r))(vE:bZ n l k0=some (kU k))(hi:T.inf et=some (a,b,z))(hz:iI z=some (vU zv)):bO T X (fr n l) (.lookup t x k0 false)=some (vU ((tE eq m k).getD zv),X):=by apply LR rfl;simp[qG,hd,eY hx,eY vE,hk.v,hk.key,zC,hg,xu hk,tE];rcases yT eq k m.es 0 with _|q;simp[Option.map_none,hi,hz,zD,Option.getD_none];simp[zM,zD,Option.getD_some]
def z0u{a b:Nat}{z:O}{zv:v09}(hx:bZ n l x=some (.map r))(vE:bZ n l k0=some (kU k))(hi:T.inf et=some (a,b,z))(hz:iI z=some (vU zv)):bO T X (fr n l) (.lookup t x k0 true)=some (.tup [vU ((tE eq m k).getD zv),.bool (tE eq m k).isSome],X):=by apply LR rfl;simp[qG,hd,eY hx,eY vE,hk.v,hk.key,zC,hg,xu hk,tE];rcases yT eq k m.es 0 with _|q;simp[Option.map_none,hi,hz,Option.getD_none,Option.isSome];simp[zM,Option.getD_some,Option.isSome]
omit hd hg in
def ZL{k:K}{j b:Nat}{v:v09}(hf:yT eq k m.es 0=some (j,v,b)):∃k',nth (m.es.map (mE kU vU)) j=some ⟨kU k',vU v,b⟩/\AT 50 (kV k') (kV k)=true:=by have⟨_,k',h1,h2⟩:=z57 k hf;refine⟨k',?_,hk.same k k' h2⟩;rw[jD,List.getElem?_map];rw[Nat.sub_zero]at h1;rw[h1];rfl
def zbx{v0:EW}{v:v09}(hx:bZ n l x=some (.map r))(vE:bZ n l k0=some (kU k))(hv0:bZ n l v0=some (vU v)){X':Sg}(E4:O2 X r ((xV eq m k v).es.map (mE kU vU)) (xV eq m k v).cl=X'):bO T X (fr n l) (.mapUpdate t x k0 v0)=some (.junk,X'):=by subst E4;apply HZ rfl rfl;simp[oY,eY hx,eY vE,eY hv0,Mn,hd,hk.v,hk.key,hk.pl,zC,hg,xu hk,xV];rcases hf:yT eq k m.es 0 with _|q;simp[Option.map_none,List.map_append,zQ,List.map_nil,mE];have⟨j,v',b⟩:=q;have⟨k',h1,h2⟩:=ZL (vU:=vU) hk hf;simp[zM,h1,hk.v,h2,zC,z6f]
end
def z6s{T:Tb}{X:Sg}{n:Nat}{l:V (Nat×U)}{t:TypeId}:bO T X (fr n l) (.makeMap t none)=some (.map X.nx,newU X (.map [] 0)):=HZ rfl rfl rfl
def Dp{K v09:Type}{kU:K->U}{vU:v09->U}{n:Nat}(hk:∀k,bA n (kU k))(hv:∀v,bA n (vU v))(es:V (K×v09×Nat)):∀e∈es.map (mE kU vU),bA n e.key/\bA n e.val:=by intro e he;obtain⟨x,_,rfl⟩:=List.mem_map.1 he;exact⟨hk _,hv _⟩
def Ng{T:Tb}{t:TypeId}{k:IntKind}(hd:T.und t=some (.int k)):VH (fun x=>.int k x) T t (fun a b=>a==b) (fun x=>.int k x) where
 v:=fun _=>rfl
 cmp:=fun a b=>by simp[eqv,hd]
 key:=fun _=>by simp[pJ,hd]
 pl:=fun _=>rfl
 same:=fun a b h=>by simp at h;simp[AT,h]
instance{K v09:Type}(n:Nat)(kU:K->U)(vU:v09->U)(es:V (K×v09×Nat))(cl:Nat)[p:Jx kU][q:Jx vU]:BB n (.map (es.map (mE kU vU)) cl):=⟨by simp only[BelB];exact Dp (p.h n) (q.h n) es⟩
end Go.Vx
