import Derived.DataReads
import Derived.ChangeArms
import Derived.OpenShut
import Derived.ChangeSame
import Derived.Test.YtmflfedkfdkipaaGreatP8
set_option linter.all false
namespace Go.Vx
open Go Go.Rx
theorem Zt{α β:Type}{f:α->Option β}:∀{l:List α}{r:List β},l.mapM f=some r->r.length=l.length/\∀(i:Nat)(a:α),l[i]? = some a->∃b,r[i]? = some b/\f a=some b
 |[],r,h=>by simp at h;subst h;simp
 |a::l,r,h=>by
  simp only[List.mapM_cons,bind,Option.bind]at h;rcases h1:f a with _|b;simp[h1]at h;simp only[h1]at h;rcases h2:l.mapM f with _|r';simp[h2]at h;simp[h2,pure]at h;subst h;obtain⟨g1,g2⟩:=Zt h2;refine⟨by simp[g1],fun i x hx=>?_⟩;cases i with
  |zero=>simp at hx;subst hx;exact⟨b,rfl,h1⟩|succ i=>simp at hx;simpa using g2 i x hx
theorem Dp(W:World):∀(l:List U)(vs:List Value),iT W l vs↔∀(i:Nat)(u:U),l[i]? = some u->∃v,vs[i]? = some v/\Rep W u v
 |[],vs=>by simp[iT]
 |u::us,[]=>by simp only[iT,false_iff];intro h;obtain⟨v,hv,_⟩:=h 0 u rfl;simp at hv
 |u::us,v::vs=>by
  simp only[iT,Dp W us vs];constructor;rintro⟨h1,h2⟩ i w hi;cases i with
  |zero=>simp at hi;subst hi;exact⟨v,rfl,h1⟩|succ i=>simp at hi;simpa using h2 i w hi
  intro h;refine⟨?_,fun i w hi=>by simpa using h (i+1) w (by simpa using hi)⟩;obtain⟨v',h1,h2⟩:=h 0 u rfl;simp at h1;subst h1;exact h2
theorem Xd{W:World}{sz:Nat}:∀{l:List (List U)}{vs:List Value},(∀(i:Nat)(c:List U),l[i]? = some c->c.length=sz/\okL c=true/\iT W c (vs.drop (i*sz)))->CN W sz l vs
 |[],vs,h=>by simp[CN]
 |d::l,vs,h=>by simp only[CN];have h0:=h 0 d rfl;refine⟨h0.1,h0.2.1,by simpa using h0.2.2,Xd fun i c hc=>?_⟩;have:=h (i+1) c (by simpa using hc);rw[List.drop_drop];rw[Nat.succ_mul,Nat.add_comm]at this;exact this
def UO(P:Program):Nat->List Field->Nat->Bool
 |o,[],n=>Nat.beq o n|o,f::fs,n=>cond (Nat.beq f.offset o) (UO P (o+P.cellsOf f.type) fs n) false
def JR(P:Program)(TS:List TypeId)(t:TypeId):Bool:=match P.underlying t with
 |some .bool=>true|some (.int _)=>true
 |some .string=>true|some (.slice e)=>cond (TS.any (Nat.beq e)) (Nat.blt 0 (P.cellsOf e)) false
 |some (.struct fs)=>cond (UO P 0 fs.toList (P.cellsOf t)) (fs.toList.all fun f=>TS.any (Nat.beq f.type)) false|some (.array n e)=>cond (TS.any (Nat.beq e)) (Nat.beq (P.cellsOf t) (n*P.cellsOf e)) false
 |_=>false
def closedTS(P:Program)(TS:List TypeId):Bool:=TS.all (JR P TS)
theorem Od{TS:List TypeId}{e:TypeId}(h:TS.any (Nat.beq e)=true):e∈TS:=by
 obtain⟨x,h1,h2⟩:=List.any_eq_true.1 h;have:e=x:=by simpa[beq_eq]using h2
 rw[this];exact h1
theorem xd{W:World}{P:Program}{fuel:Nat}{cs:List Value}:∀(fs:List Field)(o n:Nat),UO P o fs n=true->n<=cs.length->
  (∀f∈fs,∃us,iT W us ((cs.drop f.offset).take (P.cellsOf f.type))/\us.length=((cs.drop f.offset).take (P.cellsOf f.type)).length/\okL us=true/\OfTy P fuel f.type us)->
  ∃us,iT W us (cs.drop o)/\us.length=n-o/\okL us=true/\o<=n/\∀f∈fs,o<=f.offset/\OfTy P fuel f.type ((us.drop (f.offset-o)).take (P.cellsOf f.type))
 |[],o,n,hc,hl,h=>by
  have:o=n:=by simpa[UO,beq_eq]using hc
  subst this;exact⟨[],by simp[iT],by simp,rfl,zF _,by simp⟩
 |f::fs,o,n,hc,hl,h=>by
  simp only[UO]at hc;obtain⟨h1,h2⟩:=BN hc;have ho:f.offset=o:=by simpa[beq_eq]using h1
  obtain⟨us,g1,g2,g3,g4,g5⟩:=xd fs _ n h2 hl fun x hx=>h x (by simp[hx]);obtain⟨u0,k1,k2,k3,k4⟩:=h f (by simp);rw[ho]at k1 k2;have k5:u0.length=P.cellsOf f.type:=by rw[k2];simp;omega
  refine⟨u0++us,?_,by simp[k5,g2];omega,DC k3 g3,by omega,fun x hx=>?_⟩;rw[Dp]at k1 g1 ⊢;intro i u hu;rw[List.getElem?_append]at hu;split at hu;rename_i hlt;obtain⟨v,q1,q2⟩:=k1 i u hu;rw[List.getElem?_take]at q1;rw[k5]at hlt;simp only[hlt,if_true]at q1;exact⟨v,q1,q2⟩;rename_i hlt;obtain⟨v,q1,q2⟩:=g1 _ u hu;rw[List.getElem?_drop]at q1 ⊢;exact⟨v,by rw[k5]at q1 hlt;rw[show o+i=o+P.cellsOf f.type+(i-P.cellsOf f.type) by omega];exact q1,q2⟩;rcases zI.1 hx with rfl |hx;refine⟨by omega,?_⟩;rw[ho,Nat.sub_self,List.drop_zero,<-k5,List.take_left' rfl];exact k4;obtain⟨q1,q2⟩:=g5 x hx;refine⟨by omega,?_⟩;rw[show x.offset-o=u0.length+(x.offset-(o+P.cellsOf f.type)) by omega,List.drop_append,List.drop_of_length_le (by omega),List.nil_append,Nat.add_sub_cancel_left];exact q2
theorem wo{W:World}{P:Program}{fuel:Nat}{cs:List Value}{e:TypeId}{sz:Nat}:∀(n:Nat),n*sz<=cs.length->
  (∀i,i<n->∃us,iT W us ((cs.drop (i*sz)).take sz)/\us.length=((cs.drop (i*sz)).take sz).length/\okL us=true/\OfTy P fuel e us)->
  ∃us,iT W us cs/\us.length=n*sz/\okL us=true/\∀i,i<n->OfTy P fuel e ((us.drop (i*sz)).take sz)
 |0,hl,h=>⟨[],by simp[iT],by simp,rfl,by simp⟩|n+1,hl,h=>by
  rw[Nat.succ_mul]at hl;obtain⟨us,g1,g2,g3,g4⟩:=wo n (by omega) fun i hi=>h i (by omega);obtain⟨u0,k1,k2,k3,k4⟩:=h n (by omega);have k5:u0.length=sz:=by rw[k2];simp;omega
  refine⟨us++u0,?_,by rw[zU,g2,k5,Nat.succ_mul],DC g3 k3,fun i hi=>?_⟩;rw[Dp]at k1 g1 ⊢;intro i u hu;rw[List.getElem?_append]at hu;split at hu;exact g1 i u hu;rename_i hlt;obtain⟨v,q1,q2⟩:=k1 _ u hu;rw[List.getElem?_take]at q1;split at q1;rw[List.getElem?_drop]at q1;exact⟨v,by rw[g2]at q1 hlt;rw[show i=n*sz+(i-n*sz) by omega];exact q1,q2⟩;cases q1;by_cases hin:i<n;have:=g4 i hin
  have hle:i*sz+sz<=us.length:=by rw[g2,<-Nat.succ_mul];exact Nat.mul_le_mul_right _ hin
  rw[List.drop_append_of_le_length (by omega),List.take_append_of_le_length (by simp;omega)];exact this;have:i=n:=by omega
  subst this;rw[<-g2,List.drop_left' rfl,<-k5,List.take_length];exact k4
section
variable{H:Type}{enc:TypeId×Value->H}{P:Program}{W:World}{TS:List TypeId}(hTS:closedTS P TS=true)
include hTS
omit hTS in
theorem Pa{a:Addr}{n:Nat}{cs:List Value}(hn:0<n)(h:W.cells? 0 a n=some cs):∃c e fr,a.spot=none/\W.heap[a.block]? = some (.cells c e fr)/\cs.length=n/\∀(k:Nat)(v:Value),cs[k]? = some v->c.toList[a.off+k]? = some v:=by
 unfold World.cells? at h;simp only[Nat.zero_le,if_true]at h;obtain⟨g1,g2⟩:=Zt h;obtain⟨v0,k1,k2⟩:=g2 0 0 (by simp[hn]);have hsp:a.spot=none:=by have:=World.cell?_spot k2;simpa[Addr.add]using this
 have hadd:∀k,a.add k=⟨a.block,a.off+k,none⟩:=fun k=>by obtain⟨b,o,sp⟩:=a;simp only at hsp;subst hsp;exact o3 b o k
 rw[hadd]at k2;unfold World.cell? at k2;rcases hw:W.heap[a.block]? with _|o;simp[hw]at k2;cases o with
 |cells c e fr=>
  refine⟨c,e,fr,hsp,rfl,by simpa using g1,fun k v hk=>?_⟩;have hlt:k<n:=by have:=(zG.1 hk).1;rw[g1]at this;simpa using this
  obtain⟨v',q1,q2⟩:=g2 k k (by simp[hlt]);rw[hk]at q1;cases q1;rw[hadd]at q2;simp only[World.cell?,hw]at q2;simpa using q2
 |_=>simp[hw]at k2
theorem Dn:∀(fuel:Nat)(t:TypeId),t∈TS->∀(cs:List Value)(x:DataW H×List MemPlace),DataW.trod enc P W 0 (fun _=>true) true fuel t cs=some x->∃us,iT W us cs/\us.length=cs.length/\okL us=true/\OfTy P fuel t us
 |0,t,ht,cs,x,h=>by simp[DataW.trod]at h
 |fuel+1,t,ht,cs,x,h=>by
  have hty:=List.all_eq_true.1 hTS t ht;unfold JR at hty;rcases hd:P.underlying t with _|d;simp[hd]at hty;cases d with
  |bool=>obtain⟨b,rfl,_⟩:=DataW.trod_bool hd h;exact⟨[.bool b],by simp[iT,Rep],rfl,rfl,by simp[OfTy,hd]⟩
  |int k=>obtain⟨n,rfl,_,hwf⟩:=DataW.trod_int hd h;exact⟨[.int k n],by simp[iT,Rep],rfl,rfl,by simp[OfTy,hd,hwf]⟩
  |string=>obtain⟨s,rfl,_,hsz⟩:=DataW.trod_string hd h;refine⟨[.str s.data.toList],by simp[iT,Rep],rfl,rfl,?_⟩;simp only[OfTy,hd];exact⟨_,rfl,by simpa using hsz⟩
  |slice e=>
   simp only[hd]at hty;obtain⟨hte,hpos⟩:=BN hty;have he:=Od hte;have hsz:0<P.cellsOf e:=wV hpos;rcases DataW.trod_slice hd h with⟨rfl,_⟩|⟨a,len,cap,elems,rest,n,hfu,rfl,_,_,hlc,hcm,hlen,hel,hsp,_⟩;refine⟨[.isl false []],by simp[iT,Rep],rfl,rfl,?_⟩;simp only[OfTy,hd];exact⟨[],rfl,by simp,by simp⟩;have hn:n=fuel:=by omega
   subst hn;have hcap:cap<b7:=by unfold b7;unfold maxLen at hcm;omega
   have each:∀i,i<len->∃us,us.length=P.cellsOf e/\okL us=true/\OfTy P n e us/\∃c ty fr,a.spot=none/\W.heap[a.block]? = some (.cells c ty fr)/\iT W us (c.toList.drop (a.off+i*P.cellsOf e)):=by
    intro i hi;have h1:=hel i hi;have h2:elems[i]? = some elems[i]:=by simp[hlen,hi]
    rw[h2]at h1;rcases hc:W.cells? 0 (a.add (i*P.cellsOf e)) (P.cellsOf e)with _|ci;simp[hc]at h1;simp only[hc,Option.bind_some]at h1;obtain⟨us,r1,r2,r3,r4⟩:=Dn n e he ci _ h1;obtain⟨c,ty,fr,k1,k2,k3,k4⟩:=Pa hsz hc;have hspa:a.spot=none:=by
     have h3:=hel 0 (by omega);have h4:elems[0]? = some (elems[0]'(by omega)):=by simp[hlen,show 0<len by omega]
     rw[h4]at h3;rcases y7:W.cells? 0 (a.add (0*P.cellsOf e)) (P.cellsOf e)with _|c0;rw[y7]at h3;cases h3;obtain⟨_,_,_,q1,_⟩:=Pa hsz y7;simpa[Addr.add]using q1
    have hadd:a.add (i*P.cellsOf e)=⟨a.block,a.off+i*P.cellsOf e,none⟩:=by obtain⟨b,o,sp⟩:=a;simp only at hspa;subst hspa;exact o3 b o _
    rw[hadd]at k2 k4;refine⟨us,by rw[r2,k3],r3,r4,c,ty,fr,hspa,k2,?_⟩;rw[Dp]at r1 ⊢;intro k u hu;obtain⟨v,q1,q2⟩:=r1 k u hu;exact⟨v,by rw[List.getElem?_drop];exact k4 k v q1,q2⟩
   have all:∀m,m<=len->∃l:List (List U),l.length=m/\∀(i:Nat)(us:List U),l[i]? = some us->us.length=P.cellsOf e/\okL us=true/\OfTy P n e us/\∃c ty fr,a.spot=none/\W.heap[a.block]? = some (.cells c ty fr)/\iT W us (c.toList.drop (a.off+i*P.cellsOf e)):=by
    intro m;induction m with
    |zero=>intro _;exact⟨[],rfl,by simp⟩|succ m ih=>
     intro hm;obtain⟨l,l1,l2⟩:=ih (by omega);obtain⟨us,hus⟩:=each m (by omega);refine⟨l++[us],by simp[l1],fun i vs hvs=>?_⟩;rw[List.getElem?_append]at hvs;split at hvs;exact l2 i vs hvs;rename_i hge;have:i=m:=by have:=(zG.1 hvs).1;simp at this;omega
     subst this;rw[l1,Nat.sub_self]at hvs;simp at hvs;subst hvs;exact hus
   obtain⟨l,l1,l2⟩:=all len (zF _);refine⟨[.isl false l],?_,rfl,rfl,?_⟩;simp only[iT,and_true,Rep,true_and];by_cases sK:l=[];subst sK;simp at l1;subst l1;obtain⟨b,o,sp⟩:=a;rcases sp with _|p;exact .inr ⟨b,o,cap,rfl,hcap,Nat.zero_le _,.inl rfl⟩;rcases Nat.eq_zero_or_pos cap with h0 |hp;subst h0;exact .inl ⟨rfl,.inr ⟨b,o,p,rfl⟩⟩;exfalso;obtain⟨s1,s2⟩:=hsp rfl;have h3:=s2 0 (by omega);have h4:rest[0]? = some (rest[0]'(by omega)):=by simp[s1,hp]
   rw[h4]at h3;rcases y7:W.cells? 0 (Addr.add ⟨b,o,some p⟩ ((0+0)*P.cellsOf e)) (P.cellsOf e)with _|c0;rw[y7]at h3;cases h3;obtain⟨_,_,_,q1,_⟩:=Pa hsz y7;simp[Addr.add]at q1;obtain⟨Bq,Sk⟩:∃Bq,l[0]? = some Bq:=by cases l with
    |nil=>exact absurd rfl sK|cons a l=>exact⟨a,rfl⟩
   obtain⟨_,_,_,c,ty,fr,GW,hw,_⟩:=l2 0 Bq Sk;refine .inr ⟨a.block,a.off,cap,by obtain⟨b,o,sp⟩:=a;simp only at GW;subst GW;rw[l1],hcap,by omega,.inr ⟨c,ty,fr,P.cellsOf e,hw,Xd fun i us hi=>?_⟩⟩;obtain⟨q1,q2,_,c',ty',fr',_,hw',q3⟩:=l2 i us hi;rw[hw]at hw';cases hw';exact⟨q1,q2,by rw[List.drop_drop];exact q3⟩;simp only[OfTy,hd];refine⟨l,rfl,by omega,fun us hus=>?_⟩;obtain⟨i,hi⟩:=List.mem_iff_getElem?.1 hus;exact(l2 i us hi).2.2.1
  |struct fs=>
   simp only[hd]at hty;obtain⟨hcg,hall⟩:=BN hty;obtain⟨xs,m,hfu,_,hl,hxl,hf⟩:=DataW.trod_struct hd h;have hm:m=fuel:=by omega
   subst hm;obtain⟨us,g1,g2,g3,_,g5⟩:=xd (W:=W) (P:=P) (fuel:=m) (cs:=cs) fs.toList 0 (P.cellsOf t) hcg (by omega) fun f hfm=>by
    obtain⟨i,hi⟩:=List.mem_iff_getElem?.1 hfm;have h1:=hf i f (by simpa using hi);have h2:i<xs.length:=by rw[hxl];have:=(zG.1 hi).1;simpa using this
    rw[show xs[i]? = some xs[i] by simp[h2]]at h1;exact Dn m f.type (Od (List.all_eq_true.1 hall f hfm)) _ _ h1
   refine⟨us,by simpa using g1,by omega,g3,?_⟩;simp only[OfTy,hd];exact⟨by omega,fun f hfm=>by simpa using(g5 f hfm).2⟩
  |array n e=>
   simp only[hd]at hty;obtain⟨hte,hcells⟩:=BN hty;have he:=Od hte;obtain⟨xs,m,hfu,_,hl,hxl,hf⟩:=DataW.trod_array hd h;have hm:m=fuel:=by omega
   subst hm;have hcells':P.cellsOf t=n*P.cellsOf e:=by simpa[beq_eq]using hcells
   obtain⟨us,g1,g2,g3,g4⟩:=wo (W:=W) (P:=P) (fuel:=m) (cs:=cs) (e:=e) (sz:=P.cellsOf e) n (by omega) fun i hi=>by have h1:=hf i hi;rw[show xs[i]? = some xs[i] by simp[hxl,hi]]at h1;exact Dn m e he _ _ h1
   refine⟨us,g1,by omega,g3,?_⟩;simp only[OfTy,hd];exact⟨by omega,g4⟩
  |_=>simp[hd]at hty
def OfArg(P:Program)(t:TypeId)(u:U):Prop:=∃fuel us,OfTy P fuel t us/\match P.underlying t with
 |some (.struct _)=>u=.agg us|some (.array _ _)=>u=.agg us
 |_=>us=[u]
def OfArgs(P:Program):List TypeId->List U->Prop
 |[],us=>us=[]|t::ts,us=>∃u us',us=u::us'/\OfArg P t u/\OfArgs P ts us'
theorem ud{t:TypeId}(ht:t∈TS){v:Value}{d:DataW H}{ps:List MemPlace}{r:Reach}{b0:Nat}(hval:Value.okWide P W r b0 t v)(h:DataW.Trod enc P W 0 (fun _=>true) true t v d ps):∃u,Rep W u v/\OfArg P t u:=by
 obtain⟨fuel,hf⟩:=h;obtain⟨us,h1,h2,h3,h4⟩:=Dn hTS fuel t ht _ _ hf;have hty:=List.all_eq_true.1 hTS t ht;unfold JR at hty;have one:v.cells.toList=[v]->(match P.underlying t with
   |some (.struct _)=>False|some (.array _ _)=>False
   |_=>True)->∃u,Rep W u v/\OfArg P t u:=fun hc hm=>by
  rw[hc]at h1 h2
  match us,h2 with
  |[u],_=>simp only[iT,and_true]at h1;refine⟨u,h1,fuel,[u],h4,?_⟩;split<;>simp_all
 have agg:(∃cs,v=.agg cs)->(match P.underlying t with
   |some (.struct _)=>True|some (.array _ _)=>True
   |_=>False)->∃u,Rep W u v/\OfArg P t u:=fun⟨cs,hc⟩ hm=>by
  subst hc;refine⟨.agg us,?_,fuel,us,h4,?_⟩;simp only[Rep];exact⟨cs.toList,rfl,h1,h2,h3⟩;split<;>simp_all
 unfold Value.okWide at hval;rcases hd:P.underlying t with _|dd;simp[hd]at hty;cases dd with
 |struct fs=>simp only[hd]at hval;obtain⟨cs,hc,_⟩:=hval;exact agg ⟨cs,hc⟩ (by simp[hd])
 |array n e=>simp only[hd]at hval;obtain⟨cs,hc,_⟩:=hval;exact agg ⟨cs,hc⟩ (by simp[hd])
 |bool=>refine one ?_ (by simp[hd]);simp only[hd,Cell.okWide]at hval;cases v<;>first |rfl |(simp[Cell.ok,hd]at hval)
 |int k=>refine one ?_ (by simp[hd]);simp only[hd,Cell.okWide]at hval;cases v<;>first |rfl |(simp[Cell.ok,hd]at hval)
 |string=>refine one ?_ (by simp[hd]);simp only[hd,Cell.okWide]at hval;cases v<;>first |rfl |(simp[Cell.ok,hd]at hval)
 |slice e=>refine one ?_ (by simp[hd]);simp only[hd,Cell.okWide]at hval;cases v<;>first |rfl |(simp[Cell.ok,hd]at hval)
 |_=>simp[hd]at hty
theorem args_rep:∀{ts:List TypeId}{vs:List Value}{ds:List (DataW H)}{ps:List MemPlace}{r:Reach}{b0:Nat},(∀t∈ts,t∈TS)->(∀(j:Nat) t v,ts[j]? = some t->vs[j]? = some v->Value.okWide P W r b0 t v)->DataW.TrodAll enc P W 0 (fun _=>true) true ts vs ds ps->
  ∃us,iT W us vs/\us.length=vs.length/\OfArgs P ts us
 |[],[],[],ps,r,b0,ht,hval,h=>⟨[],by simp[iT],rfl,rfl⟩|t::ts,v::vs,d::ds,ps,r,b0,ht,hval,h=>by obtain⟨p,q,h1,h2,_⟩:=h;obtain⟨u,g1,g2⟩:=ud hTS (ht t (by simp)) (hval 0 t v rfl rfl) h1;obtain⟨us,k1,k2,k3⟩:=args_rep (fun x hx=>ht x (by simp[hx])) (fun j x y h3 h4=>hval (j+1) x y (by simpa using h3) (by simpa using h4)) h2;exact⟨u::us,by simp[iT,g1,k1],by simp[k2],u,us,rfl,g2,k3⟩
 |[],_::_,_,ps,r,b0,ht,hval,h=>by simp[DataW.TrodAll]at h
 |[],[],_::_,ps,r,b0,ht,hval,h=>by simp[DataW.TrodAll]at h
 |_::_,[],_,ps,r,b0,ht,hval,h=>by simp[DataW.TrodAll]at h
 |_::_,_::_,[],ps,r,b0,ht,hval,h=>by simp[DataW.TrodAll]at h
end
def E0:Option i5->Option i5
 |some (.inl (l,e,1))=>some (.inl (l,e,1))|_=>none
def PB(g:Nat->Option i5):Hp->Hp
 |[]=>[]|(i,_)::h=>match g i with
  |some b=>(i,b)::PB g h|none=>PB g h
theorem Xx(g:Nat->Option i5):∀(h:Hp)(i:Nat),lk (PB g h) i=(match lk h i with |some _=>g i |none=>none)
 |[],i=>by simp[PB,lk]
 |(j,b)::h,i=>by
  have ih:=Xx g h i;simp only[PB];cases hg:g j with
  |none=>simp only[iD];by_cases e:j=i;subst e;simp only[if_true];rw[ih,hg];split<;>rfl;simp only[e,if_false];exact ih|some c=>simp only[iD];by_cases e:j=i;subst e;simp[hg];simp only[e,if_false];exact ih
def B4(s:S):S:=⟨PB (fun i=>E0 (lk s.h i)) s.h,s.nx⟩
theorem KT(s:S)(i:Nat):lk (B4 s).h i=E0 (lk s.h i):=by
 simp only[B4,Xx];rcases h:lk s.h i with _|b;rfl;simp
theorem QY{o:Option i5}{b:i5}(h:E0 o=some b):o=some b/\∃l e,b=.inl (l,e,1):=by
 unfold E0 at h;split at h;simp at h;subst h;exact⟨rfl,_,_,rfl⟩;cases h
theorem Y'(s:S):Less s (B4 s):=⟨zF _,fun i b hb=>by rw[KT]at hb;exact(QY hb).1⟩
theorem aO.view{P:Program}{f:FuncId}{args args':List U}{σ:Sg}{u:U}{v:Value}(h:aO P f args ⟨[],0⟩ (fun u' _=>u'=u/\aJ 0 u'))(ha:aE 0 args)(hu:toV u=some v)(hren:∀m,ren m v=v){cC:Sg}(hg:Gh 0 args' σ args cC):aO P f args' σ (fun u' σ'=>u'=u/\σ'=σ):=fun F x vs m w cargs hx hh hfr he hfit hargs=>by
 obtain⟨y1,a1,a2,a3,a4,a5,a6⟩:=hg F x vs hx hh hfr he;have hadv1:=a1 m w hfit;have hadv2:=bA.less hadv1.fits (Y' y1.s);have hmo:Mo 0 y1 (cx (B4 y1.s)):=⟨fun k hk=>by omega,fun i row e hl=>by show lk (B4 y1.s).h i=_;rw[KT,hl];rfl⟩;have hno:∀b,¬ IN m (B4 y1.s) b:=fun b ⟨i,c,hc,ho,_⟩=>by rw[KT]at hc;obtain⟨_,l,e,rfl⟩:=QY hc;simp[Own]at ho
 refine(h (fun _ _=>False) (cx (B4 y1.s)) vs m w cargs rfl ⟨fun k b hb=>by simp[cx,gt]at hb,fun k k' b b' i hb=>by simp[cx,gt]at hb,fun i b hb=>?_⟩ (fun _ _ J=>J.elim) (hmo.ke.E ha a5) hadv2.fits (hargs.ext (aG.refl _ _) (Nat.le_trans hadv1.nx hadv2.nx))).mono ?_;have hb':lk (B4 y1.s).h i=some b:=hb;rw[KT]at hb';exact a3.bd i b (QY hb').1;rintro e sX ⟨y2,xH,u',v',cv,rfl,⟨rfl,_⟩,hadv,hrel,_,_,hru,_,_⟩;have hv:=(oN u' v hu y2 v').1 hru;subst hv;have hcv:cv=v':=by rw[<-hrel.at,hren]
 subst hcv;have hsame:∀b,b<w.heap.size->sX.heap[b]? = w.heap[b]?:=fun b hlt=>hadv.same b hlt (hno b);refine⟨x,m,u',cv,cv,rfl,⟨rfl,hx⟩,⟨aG.refl _ _,zF _,fun m' hm'=>?_,fun b h=>.inl h,fun b hlt _=>hsame b hlt,hadv.size,hadv.os,hadv.tape,hadv.output⟩,fun m' _=>hren m',hh,hfr,(oN u' cv hu x cv).2 rfl,Ke.refl _ _,zF _⟩;have hfm:=hfit m' hm';exact⟨fun i b hb=>(hfm.ok i b hb).world (hsame _ (hfm.size hb)),hfm.inj,hfm.bd⟩
abbrev RK:=Nat×cT
def RH(P:Program)(T:Tb)(ops:List Oper):List Oper->List U->Sg->List RK->(List RK->List U->Sg->Prop)->Prop
 |[],tm,σ,acc,K=>K acc tm σ|o::r,tm,σ,acc,K=>(bO ops tm o=some true/\∃u,aV T σ tm o.op=some (u,σ)/\RH P T ops r (cQ tm o.dst u) σ ((1,⟨tm,o,u,false,false,σ,σ⟩)::acc) K)\/ (bO ops tm o=some true/\∃u σ',aV T σ tm o.op=some (u,σ')/\RH P T ops r (cQ tm o.dst u) σ' ((3,⟨tm,o,u,true,true,σ,σ'⟩)::acc) K)\/ (bO ops tm o=some true/\∃f args u,fQ T tm o.op=some (f,args)/\aO P f args σ (fun u' σ'=>u'=u/\σ'=σ)/\RH P T ops r (cQ tm o.dst u) σ ((2,⟨tm,o,u,true,false,σ,σ⟩)::acc) K)\/ (bO ops tm o=some true/\∃f args u σ',fQ T tm o.op=some (f,args)/\aO P f args σ (fun u' s'=>u'=u/\s'=σ')/\RH P T ops r (cQ tm o.dst u) σ' ((3,⟨tm,o,u,true,true,σ,σ'⟩)::acc) K)\/ (bO ops tm o=some false/\RH P T ops r (cQ tm o.dst (.tup [])) σ ((0,⟨tm,o,.tup [],false,false,σ,σ⟩)::acc) K)\/ (bO ops tm o=some true/\∃u,mO P T tm o.op u/\RH P T ops r (cQ tm o.dst u) σ ((0,⟨tm,o,u,false,false,σ,σ⟩)::acc) K)\/ (bO ops tm o=some true/\∃u1 s1 d u σ',aV T σ tm o.op=some (u1,s1)/\o.dst=some d/\d<tm.length/\Gh s1.nx [u1] s1 [u] σ'/\s1.nx<=σ'.nx/\RH P T ops r (cQ tm o.dst u) σ' ((3,⟨tm,o,u,true,true,σ,σ'⟩)::acc) K)
def kindOk(T:Tb)(ops:List Oper)(x:RK):Prop :=
 (x.1=0/\(bO ops x.2.tm x.2.o=some false\/aV T x.2.s x.2.tm x.2.o.op≠some (x.2.u,x.2.s'))/\x.2.act=false/\x.2.mv=false)\/(x.1=1/\x.2.act=false/\x.2.mv=false)\/(x.1=2/\x.2.act=true/\x.2.mv=false)\/(x.1=3/\x.2.act=true/\x.2.mv=true)
theorem RD.mono{P:Program}{T:Tb}{ops:List Oper}:∀{rest:List Oper}{tm:List U}{σ:Sg}{K K':List cT->List U->Sg->Prop},(∀rs tm σ,K rs tm σ->K' rs tm σ)->RD P T ops rest tm σ K->RD P T ops rest tm σ K'
 |[],tm,σ,K,K',hk,h=>hk _ _ _ h|o::rest,tm,σ,K,K',hk,h=>by simp only[RD]at h ⊢;rcases h with⟨hw,u,h1,h2⟩|⟨hw,u,cC,h1,h2⟩|⟨hw,f,args,u,h1,h2,h3⟩|⟨hw,f,args,u,cC,h1,h2,h3⟩|⟨hw,h1⟩|⟨hw,u,h1,h3⟩|⟨hw,u1,s1,d,u,cC,h1,h2,h3,h4,h5,h6⟩;exact .inl ⟨hw,u,h1,RD.mono (fun _ _ _ h=>hk _ _ _ h) h2⟩;exact .inr (.inl ⟨hw,u,cC,h1,RD.mono (fun _ _ _ h=>hk _ _ _ h) h2⟩);exact .inr (.inr (.inl ⟨hw,f,args,u,h1,h2,RD.mono (fun _ _ _ h=>hk _ _ _ h) h3⟩));exact .inr (.inr (.inr (.inl ⟨hw,f,args,u,cC,h1,h2,RD.mono (fun _ _ _ h=>hk _ _ _ h) h3⟩)));exact .inr (.inr (.inr (.inr (.inl ⟨hw,RD.mono (fun _ _ _ h=>hk _ _ _ h) h1⟩))));exact .inr (.inr (.inr (.inr (.inr (.inl ⟨hw,u,h1,RD.mono (fun _ _ _ h=>hk _ _ _ h) h3⟩)))));exact .inr (.inr (.inr (.inr (.inr (.inr ⟨hw,u1,s1,d,u,cC,h1,h2,h3,h4,h5,RD.mono (fun _ _ _ h=>hk _ _ _ h) h6⟩)))))
theorem RH.rd{P:Program}{T:Tb}{ops:List Oper}:∀{rest:List Oper}{tm:List U}{σ:Sg}{acc:List RK}{K:List RK->List U->Sg->Prop},RH P T ops rest tm σ acc K->
  RD P T ops rest tm σ (fun rs tm' σ'=>∃ks:List RK,ks.map (·.2)=rs/\(∀x∈ks,kindOk T ops x)/\K (ks.reverse++acc) tm' σ')
 |[],tm,σ,acc,K,h=>⟨[],rfl,by simp,h⟩|o::rest,tm,σ,acc,K,h=>by
  have step:∀(k:RK),kindOk T ops k->∀(rs:List cT)(tm':List U)(σ':Sg),(∃ks:List RK,ks.map (·.2)=rs/\(∀x∈ks,kindOk T ops x)/\K (ks.reverse++k::acc) tm' σ')->
    ∃ks:List RK,ks.map (·.2)=k.2::rs/\(∀x∈ks,kindOk T ops x)/\K (ks.reverse++acc) tm' σ':=by
   rintro k hk rs tm' σ' ⟨ks,h1,h2,h3⟩;refine⟨k::ks,by simp[h1],?_,by simpa using h3⟩;intro x hx;rcases zI.1 hx with rfl |hx;exact hk;exact h2 x hx
  simp only[RH]at h;simp only[RD];rcases h with⟨hw,u,h1,h2⟩|⟨hw,u,cC,h1,h2⟩|⟨hw,f,args,u,h1,h2,h3⟩|⟨hw,f,args,u,cC,h1,h2,h3⟩|⟨hw,h1⟩|⟨hw,u,h1,h3⟩|⟨hw,u1,s1,d,u,cC,h1,h2,h3,h4,h5,h6⟩;exact .inl ⟨hw,u,h1,RD.mono (step (1,_) (.inr (.inl ⟨rfl,rfl,rfl⟩))) (RH.rd h2)⟩;exact .inr (.inl ⟨hw,u,cC,h1,RD.mono (step (3,_) (.inr (.inr (.inr ⟨rfl,rfl,rfl⟩)))) (RH.rd h2)⟩);exact .inr (.inr (.inl ⟨hw,f,args,u,h1,h2,RD.mono (step (2,_) (.inr (.inr (.inl ⟨rfl,rfl,rfl⟩)))) (RH.rd h3)⟩));exact .inr (.inr (.inr (.inl ⟨hw,f,args,u,cC,h1,h2,RD.mono (step (3,_) (.inr (.inr (.inr ⟨rfl,rfl,rfl⟩)))) (RH.rd h3)⟩)));exact .inr (.inr (.inr (.inr (.inl ⟨hw,RD.mono (step (0,_) (.inl ⟨rfl,.inl hw,rfl,rfl⟩)) (RH.rd h1)⟩))));exact .inr (.inr (.inr (.inr (.inr (.inl ⟨hw,u,h1,RD.mono (step (0,_) (.inl ⟨rfl,.inr (h1.noop _),rfl,rfl⟩)) (RH.rd h3)⟩)))));exact .inr (.inr (.inr (.inr (.inr (.inr ⟨hw,u1,s1,d,u,cC,h1,h2,h3,h4,h5,RD.mono (step (3,_) (.inr (.inr (.inr ⟨rfl,rfl,rfl⟩)))) (RH.rd h6)⟩)))))
def allI{α:Type}(p:Nat->α->Bool):Nat->List α->Bool
 |_,[]=>true|b,x::l=>p b x&&allI p (b+1) l
theorem Of{α:Type}{p:Nat->α->Bool}:∀{b:Nat}{l:List α},allI p b l=true->∀{j:Nat}{x:α},l[j]? = some x->p (b+j) x=true
 |b,[],_,j,x,hx=>by simp at hx
 |b,y::l,h,j,x,hx=>by
  simp only[allI,Bool.and_eq_true]at h;cases j with
  |zero=>simp at hx;subst hx;exact h.1|succ j=>
   simp only[zH]at hx;have:=Of h.2 hx
   rwa [show b+1+j=b+(j+1) by omega]at this
def SE(k:Nat):Nat:=cond (Nat.beq k 3) 1 0
def trip:Nat->List Nat->List Nat->List (Nat×Nat×Nat)
 |c,k::ks,m::ms=>(k,m,c)::trip (c+SE k) ks ms|_,_,_=>[]
def jZ:List Nat->Nat
 |[]=>0|k::ks=>SE k+jZ ks
theorem Wu:∀(ks ms:List Nat)(c j k m:Nat),ks[j]? = some k->ms[j]? = some m->(trip c ks ms)[j]? = some (k,m,c+jZ (ks.take j))
 |[],_,c,j,k,m,h,_=>by simp at h
 |_::_,[],c,j,k,m,_,h=>by simp at h
 |k0::ks,m0::ms,c,0,k,m,h1,h2=>by simp at h1 h2;subst h1;subst h2;simp[trip,jZ]
 |k0::ks,m0::ms,c,j+1,k,m,h1,h2=>by simp only[zH]at h1 h2;simp only[trip,zH,List.take_succ_cons,jZ];rw[Wu ks ms _ j k m h1 h2];simp only[Nat.add_assoc]
def tW(i k:Nat):List (Nat×Nat)->Bool
 |[]=>false|p::l=>(Nat.beq i p.1&&Nat.beq k p.2)||tW i k l
theorem Np{i k:Nat}:∀{l:List (Nat×Nat)},tW i k l=true->(i,k)∈l
 |[],h=>by simp[tW]at h
 |p::l,h=>by simp only[tW,Bool.or_eq_true,Bool.and_eq_true]at h;rcases h with⟨h1,h2⟩|h;rw[Nat.eq_of_beq_eq_true h1,Nat.eq_of_beq_eq_true h2];simp;exact List.mem_cons_of_mem _ (Np h)
def Y3(pr:List (Nat×Nat))(i:Nat)(a:Nat×Nat×Nat)(k:Nat)(b:Nat×Nat×Nat):Bool :=
 cond (Nat.ble 2 b.1) (cond (Nat.ble 2 a.1) (cond (Nat.blt k i) (Nat.testBit a.2.1 k) true) (cond (Nat.beq a.1 1) (cond (Nat.blt k i) (Nat.testBit a.2.1 k||(Nat.beq b.2.2 a.2.2||tW i k pr)) (Nat.testBit b.2.1 i||(Nat.beq a.2.2 (b.2.2+SE b.1)||tW i k pr)))
    true))
  true
def vp(ops:List Oper)(ks:List Nat)(pr:List (Nat×Nat)):Bool :=
 let L:=trip 0 ks (cK ops [])
 allI (fun i a=>allI (fun k b=>Y3 pr i a k b) 0 L) 0 L
def Cm(T:Tb)(ks:List RK)(p:Nat×Nat):Prop:=match nth ks p.1,nth ks p.2 with
 |some r,some q=>cond (Nat.blt p.2 p.1) (aV T q.2.s r.2.tm r.2.o.op=some (r.2.u,q.2.s)) (aV T q.2.s' r.2.tm r.2.o.op=some (r.2.u,q.2.s'))|_,_=>False
def Df(T:Tb)(ks:List RK):List (Nat×Nat)->Prop
 |[]=>True|p::l=>Cm T ks p/\Df T ks l
theorem Qn{T:Tb}{ks:List RK}:∀{l:List (Nat×Nat)},Df T ks l->∀p∈l,Cm T ks p
 |[],_,p,hp=>by cases hp
 |q::l,h,p,hp=>by rcases zI.1 hp with rfl |hp;exact h.1;exact Qn h.2 p hp
theorem gu{ks:List Nat}:∀{q p:Nat},p<=q->q<=ks.length->jZ (ks.take p)=jZ (ks.take q)->∀(e k:Nat),p<=e->e<q->ks[e]? = some k->k≠3
 |q,p,hpq,hq,h,e,k,h1,h2,h3=>by
  have mono:∀(l:List Nat)(a b:Nat),a<=b->jZ (l.take a)<=jZ (l.take b):=by
   intro l;induction l with
   |nil=>intro a b _;simp[jZ]|cons x l ih=>
    intro a b hab;cases a with
    |zero=>simp[jZ]|succ a=>cases b with|zero=>omega|succ b=>simp only[List.take_succ_cons,jZ];have:=ih a b (by omega);omega
  have succ:∀(l:List Nat)(a k:Nat),l[a]? = some k->jZ (l.take (a+1))=jZ (l.take a)+SE k:=by
   intro l;induction l with
   |nil=>intro a k h;simp at h|cons x l ih=>
    intro a k h;cases a with
    |zero=>simp at h;subst h;simp[jZ]|succ a=>simp only[zH]at h;simp only[List.take_succ_cons,jZ];rw[ih a k h];omega
  intro hk;have a1:=mono ks p e h1;have a2:=succ ks e k h3;have a3:=mono ks (e+1) q (by omega);rw[hk]at a2;have:SE 3=1:=rfl;omega
section
variable{C:PG}{T:Tb}(hT:eZ C.prog T){n0:Nat}{Q:Exit->List U->Sg->Prop}{tm:List U}{σ:Sg}
include hT
theorem WPU.drawE {id : Nat} {ops : Array Oper} (pr : List (Nat × Nat)) (hst : KX ops.toList = true)
    (h:RH C.prog T ops.toList ops.toList tm σ [] (fun ks tm' σ'=> vp ops.toList (ks.reverse.map (·.1)) pr=true/\Df T ks.reverse pr/\Q .normal tm' σ')):WPU C n0 (.region id ops true) tm σ Q:=by
  obtain⟨rs,tm', σ',⟨ks,hks,hkk,hfl,hpr,hQ⟩,g2,g3,g4,g5⟩:=F5 _ _ _ _ (RH.rd h);simp only[List.append_nil,List.reverse_reverse]at hfl hpr;have htr:Jm C.prog T ops.toList tm σ rs tm' σ':=⟨g2,g3,g4,fun i r hr=> by obtain⟨a,b,c,d,_⟩:=g5 i r hr;exact⟨a,b,c,d⟩⟩;have same : ∀(p q:Nat),p<=q->q<=rs.length->(∀(e:Nat)(r:cT),p<=e->e<q->rs[e]? = some r->r.mv=false)->fK rs σ' p=fK rs σ' q:=by
    intro p q hpq hq hno;induction q with
    | zero => have : p = 0 := by omega
              rw[this]
    |succ q ih=>
      rcases Nat.lt_or_ge q p with h |h;have:p=q+1:=by omega
      rw[this];rw[ih h (by omega) fun e r h1 h2 h3=> hno e r h1 (by omega) h3];have hr:rs[q]? = some rs[q]:=by simp[show q<rs.length by omega]
      obtain⟨_,_,k3,_,k5,_⟩:=g5 q _ hr;rw[k3,k5 (hno q _ h (zN _) hr)];simp[fK,hr]
  have hlen:ks.length=rs.length:=by rw[<-hks];simp
  have at_ : ∀(i:Nat)(r:cT),rs[i]? = some r->∃k,ks[i]? = some (k,r)/\kindOk T ops.toList (k,r):=by intro i r hr;rw[<-hks]at hr;simp only[List.getElem?_map]at hr;rcases hk:ks[i]? with _|x;rw[hk]at hr;simp at hr;obtain⟨k,r'⟩:=x;rw[hk]at hr;simp at hr;subst hr;exact⟨k,rfl,hkk _ (zX hk)⟩
  have trp : ∀(i k:Nat)(r:cT),ks[i]? = some (k,r)->∃m,(cK ops.toList [])[i]? = some m/\(trip 0 (ks.map (·.1)) (cK ops.toList []))[i]? = some (k,m,jZ ((ks.map (·.1)).take i)):=by
    intro i k r hk;obtain⟨m1,_,_⟩:=Po ops.toList [];have hi:i<ops.toList.length:=by rw[<-g2, <-hlen];exact(zG.1 hk).1
    have hm:i<(cK ops.toList []).length:=by rw[m1];simpa using hi
    refine⟨(cK ops.toList [])[i],by simp[hm], ?_⟩;have:=Wu (ks.map (·.1)) (cK ops.toList []) 0 i k _ (by simp[hk]) (show(cK ops.toList [])[i]? = some (cK ops.toList [])[i] by simp[hm])
    rwa [Nat.zero_add]at this
  have chk : ∀ (i k ki kk : Nat) (r q : cT), ks[i]? = some (ki, r) -> ks[k]? = some (kk, q) -> ∃ mi mk, (cK ops.toList [])[i]? = some mi /\ (cK ops.toList [])[k]? = some mk /\
      Y3 pr i (ki,mi,jZ ((ks.map (·.1)).take i)) k (kk,mk,jZ ((ks.map (·.1)).take k))=true:=by
    intro i k ki kk r q hi hk;obtain⟨mi,e1,e2⟩:=trp i ki r hi;obtain⟨mk,e3,e4⟩:=trp k kk q hk;refine⟨mi,mk,e1,e3, ?_⟩;have h1:=Of hfl e2;have h2:=Of h1 e4;simpa using h2
  have nomv : ∀(p q:Nat),p<=q->q<=rs.length->jZ ((ks.map (·.1)).take p)=jZ ((ks.map (·.1)).take q)->fK rs σ' p=fK rs σ' q:=by
    intro p q hpq hq hc;refine same p q hpq hq fun e r h1 h2 h3=> ?_;obtain⟨k,hk,hkd⟩:=at_ e r h3;have:=gu hpq (by simp;omega) hc e k h1 h2 (by simp[hk]);rcases hkd with h |h |h |h
    exact h.2.2.2;exact h.2.2;exact h.2.2;exact absurd h.1 this
  have kact : ∀(i:Nat)(r:cT),rs[i]? = some r->r.act=true->∃k,ks[i]? = some (k,r)/\Nat.ble 2 k=true:=by intro i r hr ha;obtain⟨k,hk,hkd⟩:=at_ i r hr;refine⟨k,hk, ?_⟩;rcases hkd with h |h |h |h;have:=h.2.2.1;simp only[]at this;rw[ha]at this;cases this;have:=h.2.1;simp only[]at this;rw[ha]at this;cases this;have:=h.1;simp only[]at this;subst this;rfl;have:=h.1;simp only[]at this;subst this;rfl
  have kqu : ∀(i:Nat)(r:cT),rs[i]? = some r->r.act=false->bO ops.toList r.tm r.o=some true->aV T r.s r.tm r.o.op=some (r.u,r.s')->ks[i]? = some (1,r):=by intro i r hr ha hw hl;obtain⟨k,hk,hkd⟩:=at_ i r hr;rcases hkd with h |h |h |h;rcases h.2.1 with h' |h';simp only[]at h';rw[hw]at h';cases h';exact absurd hl h';have:=h.1;simp only[]at this;subst this;exact hk;have:=h.2.1;simp only[]at this;rw[ha]at this;cases this;have:=h.2.1;simp only[]at this;rw[ha]at this;cases this
  have succ : ∀(l:List Nat)(a k:Nat),l[a]? = some k->jZ (l.take (a+1))=jZ (l.take a)+SE k:=by
    intro l;induction l with
    |nil=> intro a k h;simp at h|cons x l ih=>
      intro a k h;cases a with
      |zero=> simp at h;subst h;simp[jZ]|succ a=> simp only[zH]at h;simp only[List.take_succ_cons,jZ];rw[ih a k h];omega
  refine WPU.drawn hT hst htr ⟨fun i k r q hr hq ha hb hlt=> ?_,fun i k r q hr hq ha hw hl hb hlt=> ?_,fun i k r q hr hq ha hw hl hb hlt=> ?_⟩ (fun i r hr h=> (g5 i r hr).2.2.2.2.2 h) hQ;obtain⟨ki,h1,h2⟩:=kact i r hr ha;obtain⟨kk,h3,h4⟩:=kact k q hq hb;obtain⟨mi,mk,e1,e2,e3⟩:=chk i k ki kk r q h1 h3;simp only[Y3,h2,h4,zC,kF hlt]at e3;exact⟨mi,e1,e3⟩;have h1:=kqu i r hr ha hw hl;obtain⟨kk,h3,h4⟩:=kact k q hq hb;obtain⟨mi,mk,e1,e2,e3⟩:=chk i k 1 kk r q h1 h3;have hb1:Nat.ble 2 1=false:=rfl;have hb2:Nat.beq 1 1=true:=rfl;simp only[Y3,hb1,hb2,h4,zC,zD,kF hlt,Bool.or_eq_true]at e3;rcases e3 with e3 |e3 |e3;exact .inl ⟨mi,e1,e3⟩;have:=nomv k i (by omega) (by have:=(zG.1 hr).1;omega) (Nat.eq_of_beq_eq_true e3);exact .inr (.inl (by simpa[fK,hr,hq]using this));have:=Qn hpr _ (Np e3);simp only[Cm,eR,h1,h3,kF hlt,zC]at this;exact .inr (.inr this);have h1:=kqu i r hr ha hw hl;obtain⟨kk,h3,h4⟩:=kact k q hq hb;obtain⟨mi,mk,e1,e2,e3⟩:=chk i k 1 kk r q h1 h3;have hb1:Nat.ble 2 1=false:=rfl;have hb2:Nat.beq 1 1=true:=rfl;simp only[Y3,hb1,hb2,h4,zC,zD,BI (show ¬ k<i by omega),Bool.or_eq_true]at e3;rcases e3 with e3 |e3 |e3;exact .inl ⟨mk,e2,e3⟩;have hc:jZ ((ks.map (·.1)).take i)=jZ ((ks.map (·.1)).take (k+1)):=by rw[succ _ k kk (by simp[h3])];exact Nat.eq_of_beq_eq_true e3
  have:=nomv i (k+1) (by omega) (by have:=(zG.1 hq).1;omega) hc;have h2:=(htr.all k q hq).2.2.1;rw[h2]at this;exact .inr (.inl (by simpa[fK,hr]using this.symm));have:=Qn hpr _ (Np e3);simp only[Cm,eR,h1,h3,BI (show ¬ k<i by omega),zD]at this;exact .inr (.inr this)
end
theorem RH.call{P:Program}{T:Tb}{ops r:List Oper}{o:Oper}{tm:List U}{σ:Sg}{acc:List RK}{K:List RK->List U->Sg->Prop}{f:FuncId}{args:List U}{u:U}(hw:bO ops tm o=some true)(hc:fQ T tm o.op=some (f,args))(hev:aO P f args σ (fun u' σ'=>u'=u/\σ'=σ))
  (h:RH P T ops r (cQ tm o.dst u) σ ((2,⟨tm,o,u,true,false,σ,σ⟩)::acc) K):RH P T ops (o::r) tm σ acc K:=.inr (.inr (.inl ⟨hw,f,args,u,hc,hev,h⟩))
theorem RH.callM{P:Program}{T:Tb}{ops r:List Oper}{o:Oper}{tm:List U}{σ cC:Sg}{acc:List RK}{K:List RK->List U->Sg->Prop}{f:FuncId}{args:List U}{u:U}(hw:bO ops tm o=some true)(hc:fQ T tm o.op=some (f,args))(hev:aO P f args σ (fun u' σ'=>u'=u/\σ'=cC))
  (h:RH P T ops r (cQ tm o.dst u) cC ((3,⟨tm,o,u,true,true,σ,cC⟩)::acc) K):RH P T ops (o::r) tm σ acc K:=.inr (.inr (.inr (.inl ⟨hw,f,args,u,cC,hc,hev,h⟩)))
mutual
def rU(π:Nat->Nat):U->U
 |.ptr k st off=>.ptr (π k) st off|.sl k off n c=>.sl (π k) off n c
 |.vl k st off n=>.vl (π k) st off n|.map k=>.map (π k)
 |.iptr l=>.iptr (dC π l)|.isl t l=>.isl t (mL π l)
 |.fn f a b=>.fn f (dC π a) (dC π b)|.agg l=>.agg (dC π l)
 |.tup l=>.tup (dC π l)|u=>u
def dC(π:Nat->Nat):List U->List U
 |[]=>[]|u::l=>rU π u::dC π l
def mL(π:Nat->Nat):List (List U)->List (List U)
 |[]=>[]|c::l=>dC π c::mL π l
end
theorem tL(π:Nat->Nat):∀l,(dC π l).length=l.length
 |[]=>rfl|u::l=>by simp[dC,tL π l]
theorem Q9(π:Nat->Nat):∀l,(mL π l).length=l.length
 |[]=>rfl|u::l=>by simp[mL,Q9 π l]
theorem Y4(π:Nat->Nat)(u:U):okC (rU π u)=okC u:=by cases u<;>simp[rU,okC]
theorem wG(π:Nat->Nat):∀l,okL (dC π l)=okL l
 |[]=>rfl|u::l=>by simp[dC,okL,Y4,wG π l]
structure IP(n:Nat)(π:Nat->Nat)(x y:Cx):Prop where
 ptr:∀k st off v,k<n->aA x (.ptr k st off) v->aA y (.ptr (π k) st off) v
 sl:∀k off m c v,k<n->aA x (.sl k off m c) v->aA y (.sl (π k) off m c) v
 vl:∀k st off m v,k<n->aA x (.vl k st off m) v->aA y (.vl (π k) st off m) v
 map:∀k v,k<n->aA x (.map k) v->aA y (.map (π k)) v
 imm:∀i row e,lk x.s.h i=some (.inl (row,e,1))->lk y.s.h i=some (.inl (row,e,1))
mutual
theorem aA.leaf{n:Nat}{π:Nat->Nat}{x y:Cx}(h:IP n π x y):(u:U)->(v:Value)->aJ n u->aA x u v->aA y (rU π u) v
 |.junk,v,_,_=>by simp[rU,aA]
 |.bool b,v,_,hr=>by simpa[rU,aA]using hr
 |.int k z,v,_,hr=>by simpa[rU,aA]using hr
 |.str l,v,_,hr=>by simpa[rU,aA]using hr
 |.nilp,v,_,hr=>by simpa[rU,aA]using hr
 |.ptr k st off,v,hb,hr=>h.ptr k st off v (by simpa[aJ]using hb) hr|.iptr l,v,hb,hr=>by simp only[rU,aA]at*;obtain⟨i,off,row,e,h1,h2,h3,h4⟩:=hr;exact⟨i,off,row,e,h1,h.imm _ _ _ h2,bN.leaf h l _ (by simpa[aJ]using hb) h3,by rw[wG];exact h4⟩
 |.nils,v,_,hr=>by simpa[rU,aA]using hr
 |.sl k off m c,v,hb,hr=>h.sl k off m c v (by simpa[aJ]using hb) hr|.vl k st off m,v,hb,hr=>h.vl k st off m v (by simpa[aJ]using hb) hr
 |.isl t l,v,hb,hr=>by simp only[rU,aA]at*;rcases hr with⟨rfl,hr⟩|⟨i,off,c,h1,h2,h3⟩;exact .inl ⟨rfl,hr⟩;rw[Q9];refine .inr ⟨i,off,c,h1,h2,?_⟩;rcases h3 with rfl |⟨row,e,sz,g1,g2,g3⟩;exact .inl rfl;exact .inr ⟨row,e,sz,h.imm _ _ _ g1,eD.leaf h l _ (by simpa[aJ]using hb) g2,g3⟩
 |.nilm,v,_,hr=>by simpa[rU,aA]using hr
 |.map k,v,hb,hr=>h.map k v (by simpa[aJ]using hb) hr|.fn f a b,v,hb,hr=>by simp only[rU,aA]at*;obtain⟨va,vb,h1,h2,h3,h4,h5⟩:=hr;simp only[aJ]at hb;exact⟨va,vb,h1,bN.leaf h a _ hb.1 h2,by rw[tL];exact h3,bN.leaf h b _ hb.2 h4,by rw[tL];exact h5⟩
 |.nilf,v,_,hr=>by simpa[rU,aA]using hr
 |.nili,v,_,hr=>by simpa[rU,aA]using hr
 |.agg l,v,hb,hr=>by simp only[rU,aA]at*;obtain⟨vs,h1,h2,h3,h4⟩:=hr;exact⟨vs,h1,bN.leaf h l _ (by simpa[aJ]using hb) h2,by rw[tL];exact h3,by rw[wG];exact h4⟩
 |.tup l,v,hb,hr=>by simp only[rU,aA]at*;obtain⟨vs,h1,h2,h3⟩:=hr;exact⟨vs,h1,bN.leaf h l _ (by simpa[aJ]using hb) h2,by rw[tL];exact h3⟩
theorem bN.leaf{n:Nat}{π:Nat->Nat}{x y:Cx}(h:IP n π x y):(l:List U)->(vs:List Value)->aE n l->bN x l vs->bN y (dC π l) vs
 |[],vs,_,_=>by simp[dC,bN]
 |u::l,[],_,hr=>by simp[bN]at hr
 |u::l,v::vs,hb,hr=>by simp only[dC,bN,aE]at*;exact⟨aA.leaf h u v hb.1 hr.1,bN.leaf h l vs hb.2 hr.2⟩
theorem eD.leaf{n sz:Nat}{π:Nat->Nat}{x y:Cx}(h:IP n π x y):(l:List (List U))->(vs:List Value)->fW n l->eD x sz l vs->eD y sz (mL π l) vs
 |[],vs,_,_=>by simp[mL,eD]
 |c::l,vs,hb,hr=>by simp only[mL,eD,fW]at*;exact⟨by rw[tL];exact hr.1,by rw[wG];exact hr.2.1,bN.leaf h c vs hb.1 hr.2.2.1,eD.leaf h l _ hb.2 hr.2.2.2⟩
end
def rM(π:Nat->Nat)(e:ME):ME:=⟨rU π e.key,rU π e.val,e.born⟩
def rB(π:Nat->Nat):B->B
 |.row l e=>.row (dC π l) e|.vec l e sz st=>.vec (dC π l) e sz st
 |.map es cl=>.map (es.map (rM π)) cl
theorem FC(π:Nat->Nat)(b:B):(rB π b).st=b.st:=by cases b<;>rfl
mutual
theorem Dd{n:Nat}{π κ:Nat->Nat}(h:∀k,k<n->κ (π k)=k):(u:U)->aJ n u->rU κ (rU π u)=u
 |.ptr k _ _,hb=>by simp only[aJ]at hb;simp[rU,h k hb]
 |.sl k _ _ _,hb=>by simp only[aJ]at hb;simp[rU,h k hb]
 |.vl k _ _ _,hb=>by simp only[aJ]at hb;simp[rU,h k hb]
 |.map k,hb=>by simp only[aJ]at hb;simp[rU,h k hb]
 |.iptr l,hb=>by simp only[aJ]at hb;simp[rU,FR h l hb]
 |.isl t l,hb=>by simp only[aJ]at hb;simp[rU,On h l hb]
 |.fn f a b,hb=>by simp only[aJ]at hb;simp[rU,FR h a hb.1,FR h b hb.2]
 |.agg l,hb=>by simp only[aJ]at hb;simp[rU,FR h l hb]
 |.tup l,hb=>by simp only[aJ]at hb;simp[rU,FR h l hb]
 |.junk,_=>rfl|.bool _,_=>rfl
 |.int _ _,_=>rfl|.str _,_=>rfl
 |.nilp,_=>rfl|.nils,_=>rfl
 |.nilm,_=>rfl|.nilf,_=>rfl
 |.nili,_=>rfl
theorem FR{n:Nat}{π κ:Nat->Nat}(h:∀k,k<n->κ (π k)=k):(l:List U)->aE n l->dC κ (dC π l)=l
 |[],_=>rfl|u::l,hb=>by simp only[aE]at hb;simp[dC,Dd h u hb.1,FR h l hb.2]
theorem On{n:Nat}{π κ:Nat->Nat}(h:∀k,k<n->κ (π k)=k):(l:List (List U))->fW n l->mL κ (mL π l)=l
 |[],_=>rfl|c::l,hb=>by simp only[fW]at hb;simp[mL,FR h c hb.1,On h l hb.2]
end
theorem aQ.leaf{n:Nat}{π:Nat->Nat}{x y:Cx}(h:IP n π x y){l:List U}{vs:List Value}(hb:aE n l)(hr:aQ x l vs):aQ y (dC π l) vs:=⟨bN.leaf h l vs hb hr.1,by rw[tL];exact hr.2⟩
theorem iZ.leaf{n:Nat}{π:Nat->Nat}{x y:Cx}(h:IP n π x y){k j:Nat}{b:B}(hb:BelB n b)(hρ:y.ρ j=x.ρ k)(hl:∀i c,x.ρ k=some i->lk x.s.h i=some c->lk y.s.h i=some c)(hB:iZ x k b):iZ y j (rB π b):=by
 cases b with
 |row l e=>obtain⟨k1,i,l',e1,e2,e3⟩:=hB;exact⟨by rw[wG];exact k1,i,l',by rw[hρ,e1],hl _ _ e1 e2,aQ.leaf h hb e3⟩
 |vec l e sz st=>obtain⟨k1,k2,h3⟩:=hB;refine⟨by rw[wG];exact k1,k2,?_⟩;rcases h3 with⟨rfl,h4⟩|⟨i,l',e1,e2,e3⟩;exact .inl ⟨rfl,by rw[hρ,h4]⟩;exact .inr ⟨i,l',by rw[hρ,e1],hl _ _ e1 e2,aQ.leaf h hb e3⟩
 |map es cl=>obtain⟨i,es',e1,e2,e3,e4⟩:=hB;refine⟨i,es',by rw[hρ,e1],hl _ _ e1 e2,by simpa using e3,fun j e he=>?_⟩;simp only[List.getElem?_map]at he;rcases hj:es[j]? with _|e0;rw[hj]at he;cases he;rw[hj]at he;simp only[zM,zA]at he;subst he;obtain⟨v,q1,q2,q3,q4⟩:=e4 j e0 hj;have hbe:=hb e0 (zX hj);exact⟨v,q1,aA.leaf h _ _ hbe.1 q2,aA.leaf h _ _ hbe.2 q3,q4⟩
structure FL(n:Nat)(π:Nat->Nat)(x y:Cx):Prop where
 ptr:∀k st off v,k<n->aA x (.ptr (π k) st off) v->aA y (.ptr k st off) v
 sl:∀k off m c v,k<n->aA x (.sl (π k) off m c) v->aA y (.sl k off m c) v
 vl:∀k st off m v,k<n->aA x (.vl (π k) st off m) v->aA y (.vl k st off m) v
 map:∀k v,k<n->aA x (.map (π k)) v->aA y (.map k) v
 imm:∀i row e,lk x.s.h i=some (.inl (row,e,1))->lk y.s.h i=some (.inl (row,e,1))
mutual
theorem aA.unleaf{n:Nat}{π:Nat->Nat}{x y:Cx}(h:FL n π x y):(u:U)->(v:Value)->aJ n u->aA x (rU π u) v->aA y u v
 |.junk,v,_,_=>by simp[aA]
 |.bool b,v,_,hr=>by simpa[rU,aA]using hr
 |.int k z,v,_,hr=>by simpa[rU,aA]using hr
 |.str l,v,_,hr=>by simpa[rU,aA]using hr
 |.nilp,v,_,hr=>by simpa[rU,aA]using hr
 |.ptr k st off,v,hb,hr=>h.ptr k st off v (by simpa[aJ]using hb) hr|.iptr l,v,hb,hr=>by simp only[rU,aA]at*;obtain⟨i,off,row,e,h1,h2,h3,h4⟩:=hr;exact⟨i,off,row,e,h1,h.imm _ _ _ h2,bN.unleaf h l _ (by simpa[aJ]using hb) h3,by rw[wG]at h4;exact h4⟩
 |.nils,v,_,hr=>by simpa[rU,aA]using hr
 |.sl k off m c,v,hb,hr=>h.sl k off m c v (by simpa[aJ]using hb) hr|.vl k st off m,v,hb,hr=>h.vl k st off m v (by simpa[aJ]using hb) hr
 |.isl t l,v,hb,hr=>by simp only[rU,aA]at*;rcases hr with⟨h0,hr⟩|⟨i,off,c,h1,h2,h3⟩;exact .inl ⟨List.eq_nil_of_length_eq_zero (by rw[<-Q9 π,h0];rfl),hr⟩;rw[Q9]at h1 h2;refine .inr ⟨i,off,c,h1,h2,?_⟩;rcases h3 with h3 |⟨row,e,sz,g1,g2,g3⟩;exact .inl (List.eq_nil_of_length_eq_zero (by rw[<-Q9 π,h3];rfl));rw[Q9]at g3;exact .inr ⟨row,e,sz,h.imm _ _ _ g1,eD.unleaf h l _ (by simpa[aJ]using hb) g2,g3⟩
 |.nilm,v,_,hr=>by simpa[rU,aA]using hr
 |.map k,v,hb,hr=>h.map k v (by simpa[aJ]using hb) hr|.fn f a b,v,hb,hr=>by simp only[rU,aA]at*;obtain⟨va,vb,h1,h2,h3,h4,h5⟩:=hr;simp only[aJ]at hb;rw[tL]at h3 h5;exact⟨va,vb,h1,bN.unleaf h a _ hb.1 h2,h3,bN.unleaf h b _ hb.2 h4,h5⟩
 |.nilf,v,_,hr=>by simpa[rU,aA]using hr
 |.nili,v,_,hr=>by simpa[rU,aA]using hr
 |.agg l,v,hb,hr=>by simp only[rU,aA]at*;obtain⟨vs,h1,h2,h3,h4⟩:=hr;rw[tL]at h3;rw[wG]at h4;exact⟨vs,h1,bN.unleaf h l _ (by simpa[aJ]using hb) h2,h3,h4⟩
 |.tup l,v,hb,hr=>by simp only[rU,aA]at*;obtain⟨vs,h1,h2,h3⟩:=hr;rw[tL]at h3;exact⟨vs,h1,bN.unleaf h l _ (by simpa[aJ]using hb) h2,h3⟩
theorem bN.unleaf{n:Nat}{π:Nat->Nat}{x y:Cx}(h:FL n π x y):(l:List U)->(vs:List Value)->aE n l->bN x (dC π l) vs->bN y l vs
 |[],vs,_,_=>by simp[bN]
 |u::l,[],_,hr=>by simp[dC,bN]at hr
 |u::l,v::vs,hb,hr=>by simp only[dC,bN,aE]at*;exact⟨aA.unleaf h u v hb.1 hr.1,bN.unleaf h l vs hb.2 hr.2⟩
theorem eD.unleaf{n sz:Nat}{π:Nat->Nat}{x y:Cx}(h:FL n π x y):(l:List (List U))->(vs:List Value)->fW n l->eD x sz (mL π l) vs->eD y sz l vs
 |[],vs,_,_=>by simp[eD]
 |c::l,vs,hb,hr=>by simp only[mL,eD,fW]at*;exact⟨by rw[<-tL π];exact hr.1,by rw[<-wG π];exact hr.2.1,bN.unleaf h c vs hb.1 hr.2.2.1,eD.unleaf h l _ hb.2 hr.2.2.2⟩
end
theorem aQ.unleaf{n:Nat}{π:Nat->Nat}{x y:Cx}(h:FL n π x y){l:List U}{vs:List Value}(hb:aE n l)(hr:aQ x (dC π l) vs):aQ y l vs:=⟨bN.unleaf h l vs hb hr.1,by rw[<-tL π];exact hr.2⟩
theorem iZ.unleaf{n:Nat}{π:Nat->Nat}{x y:Cx}(h:FL n π x y){k j:Nat}{b:B}(hb:BelB n b)(hρ:y.ρ j=x.ρ k)(hl:∀i c,x.ρ k=some i->lk x.s.h i=some c->lk y.s.h i=some c)(hB:iZ x k (rB π b)):iZ y j b:=by
 cases b with
 |row l e=>obtain⟨k1,i,l',e1,e2,e3⟩:=hB;exact⟨by rw[wG]at k1;exact k1,i,l',by rw[hρ,e1],hl _ _ e1 e2,aQ.unleaf h hb e3⟩
 |vec l e sz st=>obtain⟨k1,k2,h3⟩:=hB;rw[wG]at k1;refine⟨k1,k2,?_⟩;rcases h3 with⟨h3,h4⟩|⟨i,l',e1,e2,e3⟩;exact .inl ⟨List.eq_nil_of_length_eq_zero (by rw[<-tL π,h3];rfl),by rw[hρ,h4]⟩;exact .inr ⟨i,l',by rw[hρ,e1],hl _ _ e1 e2,aQ.unleaf h hb e3⟩
 |map es cl=>
  obtain⟨i,es',e1,e2,e3,e4⟩:=hB;refine⟨i,es',by rw[hρ,e1],hl _ _ e1 e2,by simpa using e3,fun j e he=>?_⟩;have hj:(es.map (rM π))[j]? = some (rM π e):=by simp[he]
  obtain⟨v,q1,q2,q3,q4⟩:=e4 j _ hj;have hbe:=hb e (zX he);exact⟨v,q1,aA.unleaf h _ _ hbe.1 q2,aA.unleaf h _ _ hbe.2 q3,q4⟩
def ix:List Nat->Nat->Nat->Option Nat
 |[],_,_=>none|a::l,k,i=>cond (Nat.beq a k) (some i) (ix l k (i+1))
def nm:List Nat->Nat->Nat->Nat
 |[],nx,j=>nx+j|a::_,_,0=>a
 |_::l,nx,j+1=>nm l nx j
theorem wH:∀(ns:List Nat)(nx j:Nat),j<ns.length->∃h:j<ns.length,nm ns nx j=ns[j]
 |a::l,nx,0,h=>⟨h,rfl⟩|a::l,nx,j+1,h=>by obtain⟨h',e⟩:=wH l nx j (by simpa using h);exact⟨h,by simp[nm,e]⟩
theorem B5:∀(ns:List Nat)(nx j:Nat),ns.length<=j->nm ns nx j=nx+(j-ns.length)
 |[],nx,j,_=>by simp[nm]
 |a::l,nx,0,h=>by simp at h
 |a::l,nx,j+1,h=>by simp only[nm,B5 l nx j (by simpa using h)];simp
theorem Vi{ns:List Nat}{nx:Nat}(hnd:ns.Nodup)(hlt:∀k∈ns,k<nx){i j:Nat}(h:nm ns nx i=nm ns nx j):i=j:=by
 by_cases hi:i<ns.length;obtain⟨_,e1⟩:=wH ns nx i hi;by_cases hj:j<ns.length;obtain⟨_,e2⟩:=wH ns nx j hj;rw[e1,e2]at h;exact(List.getElem_inj hnd).1 h;rw[e1,B5 ns nx j (by omega)]at h;have:=hlt _ (List.getElem_mem hi);omega;rw[B5 ns nx i (by omega)]at h;by_cases hj:j<ns.length;obtain⟨_,e2⟩:=wH ns nx j hj;rw[e2]at h;have:=hlt _ (List.getElem_mem hj);omega;rw[B5 ns nx j (by omega)]at h;omega
def ES:List Nat->Nat->Bool
 |[],_=>false|a::l,k=>cond (Nat.beq a k) true (ES l k)
theorem Dy:∀(l:List Nat)(k:Nat),ES l k=true↔k∈l
 |[],k=>by simp[ES]
 |a::l,k=>by simp only[ES,beq_eq,zI];by_cases e:a=k;simp[e];have:¬ k=a:=fun h=>e h.symm;simp[e,this,Dy l k]
def pJ(ns:List Nat)(nx:Nat):List (Nat×B)->List (Nat×B)
 |[]=>[]|(j,b)::h=>(nm ns nx j,rB (nm ns nx) b)::pJ ns nx h
def wK(ns:List Nat):List (Nat×B)->List (Nat×B)
 |[]=>[]|(k,b)::h=>cond (ES ns k) (wK ns h) ((k,b)::wK ns h)
theorem Nu{ns:List Nat}{nx:Nat}(hi:∀i j,nm ns nx i=nm ns nx j->i=j):∀(h:List (Nat×B))(j:Nat),gt (pJ ns nx h) (nm ns nx j)=(gt h j).map (rB (nm ns nx))
 |[],j=>by simp[pJ,gt]
 |(i,b)::h,j=>by simp only[pJ,aK,Nu hi h j];by_cases e:i=j;simp[e];have:¬ nm ns nx i=nm ns nx j:=fun h=>e (hi _ _ h);simp[e,this]
theorem jd{ns:List Nat}{nx:Nat}:∀(h:List (Nat×B))(k:Nat),(∀j,nm ns nx j≠k)->gt (pJ ns nx h) k=none
 |[],k,_=>by simp[pJ,gt]
 |(i,b)::h,k,hk=>by simp[pJ,aK,hk i,jd h k hk]
theorem VL(ns:List Nat):∀(h:List (Nat×B))(k:Nat),gt (wK ns h) k=if k∈ns then none else gt h k
 |[],k=>by simp[wK,gt]
 |(j,b)::h,k=>by
  have ih:=VL ns h k;simp only[wK];cases hj:ES ns j with
  |true=>have hj':=(Dy ns j).1 hj;simp only[zC,ih,aK];by_cases e:j=k;subst e;simp[hj'];simp[e]|false=>
   have hj':¬ j∈ns:=fun h=>by rw[(Dy ns j).2 h]at hj;cases hj
   simp only[zD,aK,ih];by_cases e:j=k;subst e;simp[hj'];simp[e]
theorem Pt(a b:List (Nat×B))(k:Nat):gt (a++b) k=match gt a k with |some c=>some c |none=>gt b k:=by
 induction a with|nil=>simp[gt]|cons p a ih=>obtain⟨j,c⟩:=p;simp only[List.cons_append,aK,ih];by_cases e:j=k<;>simp[e]
def ZJ(ns:List Nat)(σ jD:Sg):Sg:=⟨pJ ns σ.nx jD.h++wK ns σ.h,σ.nx+(jD.nx-ns.length)⟩
mutual
theorem TY:(u:U)->rU id u=u
 |.ptr k _ _=>by simp[rU]
 |.sl k _ _ _=>by simp[rU]
 |.vl k _ _ _=>by simp[rU]
 |.map k=>by simp[rU]
 |.iptr l=>by simp[rU,C9 l]
 |.isl t l=>by simp[rU,JZ l]
 |.fn f a b=>by simp[rU,C9 a,C9 b]
 |.agg l=>by simp[rU,C9 l]
 |.tup l=>by simp[rU,C9 l]
 |.junk=>rfl|.bool _=>rfl
 |.int _ _=>rfl|.str _=>rfl
 |.nilp=>rfl|.nils=>rfl
 |.nilm=>rfl|.nilf=>rfl
 |.nili=>rfl
theorem C9:(l:List U)->dC id l=l
 |[]=>rfl|u::l=>by simp[dC,TY u,C9 l]
theorem JZ:(l:List (List U))->mL id l=l
 |[]=>rfl|c::l=>by simp[mL,C9 c,JZ l]
end
theorem iZ.keep{x y:Cx}{k:Nat}{b:B}(h:iZ x k b)(hm:Ke x.σ.nx x y)(hρ:y.ρ k=x.ρ k)(hl:∀i c,x.ρ k=some i->lk x.s.h i=some c->lk y.s.h i=some c):iZ y k b:=by
 cases b with
 |row l e=>obtain⟨k1,i,l',e1,e2,e3⟩:=h;exact⟨k1,i,l',by rw[hρ,e1],hl _ _ e1 e2,hm.E e3.bel e3⟩
 |vec l e sz st=>obtain⟨k1,k2,h3⟩:=h;refine⟨k1,k2,?_⟩;rcases h3 with⟨h3,h4⟩|⟨i,l',e1,e2,e3⟩;exact .inl ⟨h3,by rw[hρ,h4]⟩;exact .inr ⟨i,l',by rw[hρ,e1],hl _ _ e1 e2,hm.E e3.bel e3⟩
 |map es cl=>obtain⟨i,es',e1,e2,e3⟩:=h;refine⟨i,es',by rw[hρ,e1],hl _ _ e1 e2,e3.1,fun j e he=>?_⟩;obtain⟨v,q1,q2,q3,q4⟩:=e3.2 j e he;exact⟨v,q1,hm _ _ (aA.bel _ _ q2) q2,hm _ _ (aA.bel _ _ q3) q3,q4⟩
theorem iZ.row_at{x:Cx}{k i:Nat}{b:B}(h:iZ x k b)(hi:x.ρ k=some i):∃c,lk x.s.h i=some c:=by
 cases b with
 |row l e=>obtain⟨_,i',l',e1,e2,_⟩:=h;rw[hi]at e1;cases e1;exact⟨_,e2⟩
 |vec l e sz st=>obtain⟨_,_,h3⟩:=h;rcases h3 with⟨_,h4⟩|⟨i',l',e1,e2,_⟩;rw[hi]at h4;cases h4;rw[hi]at e1;cases e1;exact⟨_,e2⟩
 |map es cl=>obtain⟨i',es',e1,e2,_⟩:=h;rw[hi]at e1;cases e1;exact⟨_,e2⟩
theorem aO.frame{P:Program}{f:FuncId}{args:List U}{h0:List (Nat×B)}{R:U->Sg->Prop}(ns:List Nat)(h:aO P f args ⟨h0,ns.length⟩ R)(σ:Sg)(hnd:ns.Nodup)(hlt:∀k∈ns,k<σ.nx)(ha:aE ns.length args)
  (hsub:∀k b,gt h0 k=some b->k<ns.length/\BelB ns.length b/\gt σ.h (nm ns σ.nx k)=some (rB (nm ns σ.nx) b)):
  aO P f (dC (nm ns σ.nx) args) σ (fun u σ'=>∃u0 jD,R u0 jD/\ns.length<=jD.nx/\u=rU (nm ns σ.nx) u0/\σ'=ZJ ns σ jD):=fun F x vs m w cargs hx hh hfr he hfit hargs=>by
 subst hx;have hinj:∀i j,nm ns x.σ.nx i=nm ns x.σ.nx j->i=j:=fun i j h=>Vi hnd hlt h;have hmem:∀k,k∈ns->∃j,j<ns.length/\nm ns x.σ.nx j=k:=fun k hk=>by obtain⟨j,hj,e⟩:=List.getElem_of_mem hk;exact⟨j,hj,by rw[(wH ns x.σ.nx j hj).2,e]⟩
 have hnlt:∀j,j<ns.length->nm ns x.σ.nx j<x.σ.nx:=fun j hj=>by rw[(wH ns x.σ.nx j hj).2];exact hlt _ (List.getElem_mem hj)
 let x0:Cx:=⟨fun k=>if k<ns.length then x.ρ (nm ns x.σ.nx k)else none,⟨h0,ns.length⟩,x.s⟩
 have u7:∀k,k<ns.length->x0.ρ k=x.ρ (nm ns x.σ.nx k):=fun k hk=>by simp[x0,hk]
 have href:∀k st (p:Option Nat->Prop),k<ns.length->Ref x (nm ns x.σ.nx k) st p->Ref x0 k st p:=fun k st p hk ⟨_,h2⟩=>⟨hk,fun b hb=>by obtain⟨_,_,hg⟩:=hsub k b hb;have:=h2 _ hg;rw[FC]at this;rw[u7 k hk];exact this⟩;have hun:FL ns.length (nm ns x.σ.nx) x x0:={
  ptr:=fun k st off v hk hr=>by simp only[aA]at*;exact⟨hr.1,href k st _ hk hr.2⟩
  sl:=fun k off m c v hk hr=>by simp only[aA]at*;exact⟨hr.1,href k 0 _ hk hr.2⟩
  map:=fun k v hk hr=>by simp only[aA]at*;exact⟨hr.1,href k 0 _ hk hr.2⟩
  vl:=fun k st off m v hk hr=>by
   simp only[aA]at*;obtain⟨g1,g2,g3⟩:=hr;refine⟨g1,hk,fun b hb=>?_⟩;obtain⟨_,_,hg⟩:=hsub k b hb;obtain⟨g4,g5⟩:=g3 _ hg;rw[FC]at g4 g5;refine⟨g4,fun e=>?_⟩;obtain⟨l,e',sz,e7,e8⟩:=g5 e;rw[u7 k hk];cases b with
   |vec l0 e0 TP r_=>simp only[rB,B.vec.injEq]at e7;obtain⟨_,rfl,rfl,rfl⟩:=e7;exact⟨l0,_,_,rfl,e8⟩
   |row _ _=>simp[rB]at e7|map _ _=>simp[rB]at e7
  imm:=fun i row e hl=>hl }
 have oo:eQ x0:=⟨fun k b hb=>by obtain⟨h1,h2,h3⟩:=hsub k b hb;exact⟨h1,iZ.unleaf hun h2 (u7 k h1) (fun i c _ hl=>hl) (hh.ok _ _ h3).2⟩,
  fun k k' b b' i hb hb' hi hi'=>by obtain⟨h1,h2,h3⟩:=hsub k b hb;obtain⟨mW,sQ,E8⟩:=hsub k' b' hb';rw[u7 k h1]at hi;rw[u7 k' mW]at hi';exact hinj _ _ (hh.inj _ _ _ _ i h3 E8 hi hi'),
  hh.bd⟩
 let F0:Nat->i5->Prop:=fun i b=>lk x.s.h i=some b/\∀k c,gt h0 k=some c->x.ρ (nm ns x.σ.nx k)≠some i
 have Tc:Fr F0 x0:=fun i b J=>⟨J.1,fun k c hc=>by rw[u7 k (hsub k c hc).1];exact J.2 k c hc⟩;refine(h F0 x0 vs m w cargs rfl oo Tc (aQ.unleaf hun ha he) hfit hargs).mono ?_;rintro e w₁ ⟨y0,aF,u0,v,cv,rfl,hR,hadv,hrel,hhy,hfry,hru,hke,hnx⟩;have hnx':ns.length<=y0.σ.nx:=hnx;have himg:∀k,k<x.σ.nx->¬ k∈ns->∀j,nm ns x.σ.nx j≠k:=fun k hk hn j e=>by by_cases hj:j<ns.length;obtain⟨_,e1⟩:=wH ns x.σ.nx j hj;rw[e1]at e;exact hn (e ▸ List.getElem_mem hj);rw[B5 ns x.σ.nx j (by omega)]at e;omega
 let inv:Nat->Option Nat:=fun k=>if k<x.σ.nx then ix ns k 0 else some (ns.length+(k-x.σ.nx))
 let y:Cx:=⟨fun k=>if k∈ns\/x.σ.nx<=k then(match inv k with |some j=>y0.ρ j |none=>none)else x.ρ k,ZJ ns x.σ y0.σ,y0.s⟩
 have hixg:∀(l:List Nat)(j i:Nat),l.Nodup->(hj:j<l.length)->ix l l[j] i=some (i+j):=by
  intro l;induction l with
  |nil=>intro j i _ hj;simp at hj|cons a l ih=>
   intro j i hnd hj;cases j with
   |zero=>simp[ix,beq_eq]|succ j=>have hne:¬ a=l[j]'(by simpa using hj):=fun h=>(List.nodup_cons.1 hnd).1 (h ▸ List.getElem_mem _);simp only[List.getElem_cons_succ,ix,beq_eq,hne,yB,zD];rw[ih j (i+1) (List.nodup_cons.1 hnd).2 (by simpa using hj)];congr 1;omega
 have hinv:∀j,inv (nm ns x.σ.nx j)=some j:=fun j=>by
  by_cases hj:j<ns.length;have h1:=hnlt j hj;obtain⟨_,e1⟩:=wH ns x.σ.nx j hj;simp only[inv,h1,if_true];rw[e1,hixg ns j 0 hnd hj];simp;have e1:=B5 ns x.σ.nx j (by omega);have h1:¬ nm ns x.σ.nx j<x.σ.nx:=by omega
  simp only[inv,h1,if_false,zA];omega
 have hρy:∀j,y.ρ (nm ns x.σ.nx j)=y0.ρ j:=fun j=>by
  have h1:nm ns x.σ.nx j∈ns\/x.σ.nx<=nm ns x.σ.nx j:=by by_cases hj:j<ns.length;obtain⟨_,e1⟩:=wH ns x.σ.nx j hj;exact .inl (by rw[e1];exact List.getElem_mem hj);rw[B5 ns x.σ.nx j (by omega)];exact .inr (by omega)
  simp only[y,h1,if_true,hinv]
 have hρn:∀k,k<x.σ.nx->¬ k∈ns->y.ρ k=x.ρ k:=fun k hk hn=>by
  have h1:¬ (k∈ns\/x.σ.nx<=k):=by rintro(h |h);exact hn h;omega
  simp only[y,h1,if_false]
 have hgy:∀j,gt y.σ.h (nm ns x.σ.nx j)=(gt y0.σ.h j).map (rB (nm ns x.σ.nx)):=fun j=>by
  show gt (pJ ns x.σ.nx y0.σ.h++wK ns x.σ.h) _=_;rw[Pt,Nu hinj];cases hg:gt y0.σ.h j with
  |some b=>rfl|none=>simp only[Option.map_none];rw[VL];split;rfl;rename_i hn;rcases E3:gt x.σ.h (nm ns x.σ.nx j)with _|b;rfl;have:=(hh.ok _ _ E3).1;exact absurd rfl (himg _ this hn j)
 have hgn:∀k,k<x.σ.nx->¬ k∈ns->gt y.σ.h k=gt x.σ.h k:=fun k hk hn=>by show gt (pJ ns x.σ.nx y0.σ.h++wK ns x.σ.h) _=_;rw[Pt,jd _ _ (himg k hk hn),VL,if_neg hn]
 have hcase:∀k b,gt y.σ.h k=some b->(∃j b0,k=nm ns x.σ.nx j/\gt y0.σ.h j=some b0/\b=rB (nm ns x.σ.nx) b0)\/(k<x.σ.nx/\¬ k∈ns/\gt x.σ.h k=some b):=fun k b hb=>by
  by_cases hk:∃j,nm ns x.σ.nx j=k;obtain⟨j,rfl⟩:=hk;rw[hgy]at hb;rcases hg:gt y0.σ.h j with _|b0;rw[hg]at hb;cases hb;rw[hg]at hb;simp at hb;exact .inl ⟨j,b0,rfl,hg,hb.symm⟩;have hk':∀j,nm ns x.σ.nx j≠k:=fun j e=>hk ⟨j,e⟩
  have hlt':k<x.σ.nx:=by rcases Nat.lt_or_ge k x.σ.nx with h |h;exact h;exact absurd (by rw[B5 ns x.σ.nx _ (by omega)];omega) (hk' (ns.length+(k-x.σ.nx)))
  have hn:¬ k∈ns:=fun h=>by obtain⟨j,_,e⟩:=hmem k h;exact hk' j e
  rw[hgn k hlt' hn]at hb;exact .inr ⟨hlt',hn,hb⟩
 have hself:∀k,k<x.σ.nx->k∈ns\/¬ k∈ns:=fun k _=>Classical.em _;have hynx:y.σ.nx=x.σ.nx+(y0.σ.nx-ns.length):=rfl;have hnmlt:∀j,j<y0.σ.nx->nm ns x.σ.nx j<y.σ.nx:=fun j hj=>by rw[hynx];by_cases hj':j<ns.length;have:=hnlt j hj';omega;rw[B5 ns x.σ.nx j (by omega)];omega
 have hrefy:∀k st (p:Option Nat->Prop),Ref y0 k st p->Ref y (nm ns x.σ.nx k) st p:=fun k st p ⟨h1,h2⟩=>⟨hnmlt k h1,fun b hb=>by rw[hgy]at hb;rcases hg:gt y0.σ.h k with _|b0;rw[hg]at hb;cases hb;rw[hg]at hb;simp only[zM,zA]at hb;subst hb;rw[FC,hρy];exact h2 _ hg⟩;have hleaf:IP y0.σ.nx (nm ns x.σ.nx) y0 y:={
  ptr:=fun k st off v _ hr=>by simp only[aA]at*;exact⟨hr.1,hrefy k st _ hr.2⟩
  sl:=fun k off m c v _ hr=>by simp only[aA]at*;exact⟨hr.1,hrefy k 0 _ hr.2⟩
  map:=fun k v _ hr=>by simp only[aA]at*;exact⟨hr.1,hrefy k 0 _ hr.2⟩
  vl:=fun k st off m v _ hr=>by simp only[aA]at*;obtain⟨g1,g2,g3⟩:=hr;refine⟨g1,hnmlt k g2,fun b hb=>?_⟩;rw[hgy]at hb;rcases hg:gt y0.σ.h k with _|b0;rw[hg]at hb;cases hb;rw[hg]at hb;simp only[zM,zA]at hb;subst hb;rw[FC,hρy];obtain⟨g4,g5⟩:=g3 _ hg;refine⟨g4,fun e=>?_⟩;obtain⟨l,e',sz,rfl,e8⟩:=g5 e;exact⟨_,e',sz,rfl,e8⟩
  imm:=fun i row e hl=>hl }
 have himm:∀i row e,lk x.s.h i=some (.inl (row,e,1))->lk y.s.h i=some (.inl (row,e,1)):=fun i row e hl=>(hfry i _ ⟨hl,fun k c hc hρ=>(hh.ok _ _ (hsub k c hc).2.2).2.not1 hρ hl⟩).1;have hrefx:∀k st (p:Option Nat->Prop),¬ k∈ns->Ref x k st p->Ref y k st p:=fun k st p hn ⟨h1,h2⟩=>⟨by rw[hynx];omega,fun b hb=>by rw[hgn k h1 hn]at hb;rw[hρn k h1 hn];exact h2 b hb⟩;have hkeL:IP x.σ.nx id x y:={
  ptr:=fun k st off v hk hr=>by by_cases hn:k∈ns;obtain⟨j,hj,rfl⟩:=hmem k hn;exact hleaf.ptr j st off v (by omega) (hke (.ptr j st off) v (by simpa[aJ,x0]using hj) (hun.ptr j st off v hj hr));simp only[aA]at*;exact⟨hr.1,hrefx k st _ hn hr.2⟩
  sl:=fun k off m c v hk hr=>by by_cases hn:k∈ns;obtain⟨j,hj,rfl⟩:=hmem k hn;exact hleaf.sl j off m c v (by omega) (hke (.sl j off m c) v (by simpa[aJ,x0]using hj) (hun.sl j off m c v hj hr));simp only[aA]at*;exact⟨hr.1,hrefx k 0 _ hn hr.2⟩
  map:=fun k v hk hr=>by by_cases hn:k∈ns;obtain⟨j,hj,rfl⟩:=hmem k hn;exact hleaf.map j v (by omega) (hke (.map j) v (by simpa[aJ,x0]using hj) (hun.map j v hj hr));simp only[aA]at*;exact⟨hr.1,hrefx k 0 _ hn hr.2⟩
  vl:=fun k st off m v hk hr=>by by_cases hn:k∈ns;obtain⟨j,hj,rfl⟩:=hmem k hn;exact hleaf.vl j st off m v (by omega) (hke (.vl j st off m) v (by simpa[aJ,x0]using hj) (hun.vl j st off m v hj hr));simp only[aA,id]at*;obtain⟨g1,g2,g3⟩:=hr;refine⟨g1,by rw[hynx];omega,fun b hb=>?_⟩;rw[hgn k g2 hn]at hb;rw[hρn k g2 hn];exact g3 b hb
  imm:=himm }
 have hid:∀u,rU id u=u/\True:=fun u=>⟨(TY u),trivial⟩;have hkexy:Ke x.σ.nx x y:=fun u v hb hr=>by
  have:=aA.leaf hkeL u v hb hr
  rwa [(hid u).1]at this
 have hrowF:∀k b i c,gt x.σ.h k=some b->¬ k∈ns->x.ρ k=some i->lk x.s.h i=some c->F0 i c:=fun k b i c hb hn hi hl=>⟨hl,fun j d hd hρ=>by
  obtain⟨h1,_,h3⟩:=hsub j d hd;have:=hh.inj _ _ _ _ i h3 hb hρ hi;have h5:nm ns x.σ.nx j∈ns:=by rw[(wH ns x.σ.nx j h1).2];exact List.getElem_mem h1
  exact hn (this ▸ h5)⟩
 refine⟨y,aF,rU (nm ns x.σ.nx) u0,v,cv,rfl,⟨u0,y0.σ,hR,hnx',rfl,rfl⟩,hadv,hrel,⟨fun k b hb=>?_,fun k k' b b' i hb hb' hi hi'=>?_,hhy.bd⟩,fun i b J=>?_,aA.leaf hleaf u0 v (aA.bel u0 v hru) hru,hkexy,by rw[hynx];omega⟩;rcases hcase k b hb with⟨j,b0,rfl,hg,rfl⟩|⟨h1,h2,h3⟩;obtain⟨g1,g2⟩:=hhy.ok j b0 hg;exact⟨hnmlt j g1,iZ.leaf hleaf (g2.belB) (hρy j) (fun i c _ hl=>hl) g2⟩;exact⟨by rw[hynx];omega,(hh.ok k b h3).2.keep hkexy (hρn k h1 h2) fun i c hi hl=>(hfry i c (hrowF k b i c h3 h2 hi hl)).1⟩;have mixed:∀k k' b b0 (j:Nat),k=nm ns x.σ.nx j->gt y0.σ.h j=some b0->y.ρ k=some i->k'<x.σ.nx->¬ k'∈ns->gt x.σ.h k'=some b->y.ρ k'=some i->False:=fun k k' b b0 j e hg hi h1 h2 h3 hi'=>by subst e;rw[hρy]at hi;rw[hρn k' h1 h2]at hi';obtain⟨c,hc⟩:=(hh.ok k' b h3).2.row_at hi';exact(hfry i c (hrowF k' b i c h3 h2 hi' hc)).2 j b0 hg hi
 rcases hcase k b hb with⟨j,b0,e1,hg,_⟩|⟨h1,h2,h3⟩;rcases hcase k' b' hb' with⟨j',Ui,O7,hg',_⟩|⟨mW,sQ,E8⟩;subst e1 O7;rw[hρy]at hi hi';rw[hhy.inj j j' b0 Ui i hg hg' hi hi'];exact(mixed k k' b' b0 j e1 hg hi mW sQ E8 hi').elim;rcases hcase k' b' hb' with⟨j',Ui,O7,hg',_⟩|⟨mW,sQ,E8⟩;exact(mixed k' k b Ui j' O7 hg' hi' h1 h2 h3 hi).elim;rw[hρn k h1 h2]at hi;rw[hρn k' mW sQ]at hi';exact hh.inj k k' b b' i h3 E8 hi hi';obtain⟨h1,h2⟩:=hfr i b J;have kz:F0 i b:=⟨h1,fun k c hc=>h2 _ _ (hsub k c hc).2.2⟩;refine⟨(hfry i b kz).1,fun k c hc=>?_⟩;rcases hcase k c hc with⟨j,b0,rfl,hg,_⟩|⟨g1,g2,g3⟩;rw[hρy];exact(hfry i b kz).2 j b0 hg;rw[hρn k g1 g2];exact h2 k c g3
def a8{α β:Type}(o:Option α)(k:α->Option β):Option β:=match o with
 |some a=>k a|none=>none
variable{α:Type}
variable{β:Type}
theorem aB{o:Option α}{k:α->Option β}{r:β}(h:a8 o k=some r):∃a,o=some a/\k a=some r:=by
 rcases o with _|a;cases h;exact⟨a,rfl,h⟩
@[simp] theorem aM{α β:Type}(a:α)(k:α->Option β):a8 (some a) k=k a:=rfl
@[simp] theorem Jj{α β:Type}(k:α->Option β):a8 none k=none:=rfl
theorem OD{c:Bool}{a b:Option β}{r:Option β}(h:c=true)(J:cond c a b=r):a=r:=by subst h;exact J
theorem OE{c:Bool}{a b:Option β}{r:Option β}(h:c=false)(J:cond c a b=r):b=r:=by subst h;exact J
def aH{β:Type}(p:Prop)[Decidable p](k:Option β):Option β:=if p then k else none
theorem bU{p:Prop}[Decidable p]{k:Option β}{r:β}(h:aH p k=some r):p/\k=some r:=by
 unfold aH at h;split at h;rename_i hp;exact⟨hp,h⟩;cases h
def aC{α:Type}(l:List α)(i:Int):Option α:=if 0<=i/\i<(l.length:Int)then l[i.toNat]? else none
variable{l:List α}
variable{i:Int}
variable{x:α}
theorem td(c:α->List U)(h:aC l i=some x):0<=i/\i<(l.length:Int)/\(l.map c)[i.toNat]? = some (c x):=by
 unfold aC at h;split at h;rename_i hp;exact⟨hp.1,hp.2,by simp[h]⟩;cases h
theorem QO(h:aC l i=some x):0<=i/\i<(l.length:Int)/\l[i.toNat]? = some x:=by
 unfold aC at h;split at h;rename_i hp;exact⟨hp.1,hp.2,h⟩;cases h
theorem cP(i:Nat):aC l (i:Int)=l[i]?:=by
 unfold aC;by_cases h:i<l.length;simp[h];simp[h]
def cI(k:IntKind)(n:Int):List U:=[.int k n]
def cS(s:List UInt8):List U:=[.str s]
def cL{α:Type}(c:α->List U)(l:List α):List U:=[.isl false (l.map c)]
theorem Cw(n:Nat)(k:IntKind)(x:Int):aE n (cI k x):=by simp[cI,aE,aJ]
theorem Wh(n:Nat)(x:List UInt8):aE n (cS x):=by simp[cS,aE,aJ]
variable{c:α->List U}
theorem OS(n:Nat)(h:∀x,aE n (c x))(x:List α):aE n (cL c x):=by simp[cL,aE,aJ,o5 c h x]
variable{sz:Nat}
theorem Oe(h:∀x,(c x).length=sz)(l:List α):((l.map c).all fun r=>Nat.beq r.length sz)=true:=by
 simp[h]
theorem tO(h:∀x,(c x).length=sz)(l:List α):((l.map c).flatten).length=l.length*sz:=by
 induction l with|nil=>simp|cons x l ih=>simp only[zQ,List.flatten_cons,zU,ih,h,zO,Nat.succ_mul];omega
theorem Ow(c:α->List U)(l k:List α):((l++k).map c).flatten=(l.map c).flatten++(k.map c).flatten:=by simp
theorem yp(h:∀x,(c x).length=sz)(l:List α):fI (l.map c).flatten (0*sz) (l.length*sz)=some (l.map c).flatten:=by
 have:=tO h l;simp only[fI,Nat.zero_mul,Nat.zero_add,this,zF,if_true,List.drop_zero];rw[<-this,List.take_length]
theorem Ek(h:∀x,(c x).length=sz)(l:List α)(i:Nat):((l.map c).flatten).drop (i*sz)=((l.drop i).map c).flatten:=by
 induction i generalizing l with|zero=>simp|succ i ih=>rcases l with _|⟨x,l⟩;simp;simp only[zQ,List.flatten_cons,List.drop_succ_cons,Nat.succ_mul];rw[Nat.add_comm,<-List.drop_drop,List.drop_append_of_le_length (by rw[h];exact zF _)];rw[show(c x).drop sz=[]from List.drop_eq_nil_of_le (by rw[h];exact zF _),List.nil_append,ih]
theorem zr(h:∀x,(c x).length=sz)(l:List α)(i:Nat):((l.map c).flatten).take (i*sz)=((l.take i).map c).flatten:=by
 induction i generalizing l with|zero=>simp|succ i ih=>rcases l with _|⟨x,l⟩;simp;simp only[zQ,List.flatten_cons,List.take_succ_cons,Nat.succ_mul];rw[Nat.add_comm,List.take_append,h,zW (by rw[h];omega),Nat.add_sub_cancel_left,ih]
theorem xp(h:∀x,(c x).length=sz)(l:List α):bC sz l.length (l.map c).flatten=l.map c:=by
 induction l with|nil=>rfl|cons x l ih=>simp only[zQ,List.flatten_cons,zO,bC];rw[List.take_append_of_le_length (by rw[h];exact zF _),zW (by rw[h];exact zF _),List.drop_append_of_le_length (by rw[h];exact zF _),List.drop_eq_nil_of_le (by rw[h];exact zF _),List.nil_append,ih]
theorem Wt(h:∀x,(c x).length=sz)(hx:aC l i=some x):fI (l.map c).flatten (0*sz+i.toNat*sz) sz=some (c x):=by
 obtain⟨h1,h2,h3⟩:=QO hx;have hlt:i.toNat<l.length:=by omega
 have hl:=tO h l;have hle:i.toNat*sz+sz<=l.length*sz:=by rw[<-Nat.succ_mul];exact Nat.mul_le_mul_right _ (by omega)
 simp only[fI,Nat.zero_mul,Nat.zero_add,hl,hle,if_true,Ek h,zA];have hd:l.drop i.toNat=x::l.drop (i.toNat+1):=by rw[List.drop_eq_getElem_cons hlt];rw[List.getElem?_eq_getElem hlt]at h3;rw[Option.some.inj h3]
 rw[hd];simp only[zQ,List.flatten_cons];rw[List.take_append_of_le_length (by rw[h];exact zF _),zW (by rw[h];exact zF _)]
theorem IY(h:∀x,(c x).length=sz)(hz:0<sz)(hx:aC l i=some x):((l.map c).flatten=[])=False:=by
 obtain⟨h1,h2,h3⟩:=QO hx;have hl:=tO h l;simp only[eq_iff_iff,iff_false];intro e;rw[e]at hl;have:0<l.length*sz:=Nat.mul_pos (by omega) hz;simp at hl;omega
theorem yg(h:∀x,(c x).length=1){u:α->U}(hu:∀x,c x=[u x])(hx:aC l i=some x):nth (l.map c).flatten (0*1+i.toNat*1)=some (u x):=by
 have:=Wt h hx;obtain⟨h1,h2⟩:=FY this;rw[hu]at h2;rw[eR];have h3:=congrArg (fun l:List U=>l[0]?) h2;simp only[List.getElem?_take,List.getElem?_drop]at h3;simpa using h3.symm
def qJ{α:Type}(l:List α)(lo hi:Int):Option (List α):=if 0<=lo/\lo<=hi/\hi<=(l.length:Int)then some ((l.take hi.toNat).drop lo.toNat)else none
theorem qh(c:α->List U)(l:List α)(a b:Nat):jY (l.map c) a b=((l.take b).drop a).map c:=by simp[jY,List.map_drop,List.map_take]
variable{k:List α}
variable{lo:Int}
variable{hi:Int}
theorem we(h:qJ l lo hi=some k):0<=lo/\lo<=hi/\hi<=(l.length:Int)/\(l.take hi.toNat).drop lo.toNat=k:=by
 unfold qJ at h;split at h;rename_i hp;exact⟨hp.1,hp.2.1,hp.2.2,Option.some.inj h⟩;cases h
theorem Ms{n m:Nat}{k:IntKind}(h1:0<=hi)(h2:hi<=(n:Int)):dN m n none (some (.int k hi)) none=some (0,hi.toNat,n):=by
 have:kG hi (n+1)=true:=B9 ⟨by omega,by omega⟩;simp[dN,eS,this]
theorem Mr{n:Nat}{k:IntKind}(h1:0<=lo)(h2:lo<=(n:Int)):dN n n (some (.int k lo)) none none=some (lo.toNat,n,n):=by
 have:kG lo (n+1)=true:=B9 ⟨by omega,by omega⟩;simp[dN,eS,this]
def FA(n0:Nat)(E:List U->Sg->Prop)(Q:Exit->List U->Sg->Prop):Exit->List U->Sg->Prop
 |.normal,tm,σ=>∃tm' σ',E tm' σ'/\n0<=σ'.nx/\Gh n0 tm σ tm' σ'|e,tm,σ=>Q e tm σ
variable{C:PG}
variable{n0:Nat}
variable{Q:Exit->List U->Sg->Prop}
variable{tm:List U}
variable{σ:Sg}
theorem dU{c:Code}(E:List U->Sg->Prop)(out:∀tm σ,E tm σ->Q .normal tm σ)(h:WPU C n0 c tm σ (FA n0 E Q)):WPU C n0 c tm σ Q:=by
 refine WPU.after h ?_;intro e Li cC hn h;cases e with
 |normal=>obtain⟨tm'',aN,h1,h2,h3⟩:=h;exact⟨tm'',aN,h2,h3,out _ _ h1⟩
 |_=>exact⟨Li,cC,hn,Gh.refl _ _ _,h⟩
theorem WPU.loopK{c:Code}{id:Nat}(I:Nat->List U->Sg->Prop)(E:List U->Sg->Prop)(n:Nat)(xZ:I n tm σ)
  (out:∀tm σ,E tm σ->Q .normal tm σ)
  (round:∀n tm σ,I n tm σ->WPU C n0 c tm σ (tE (fun tm' σ'=>∃n' tm'' aN,n'<n/\I n' tm'' aN/\n0<=aN.nx/\Gh n0 tm' σ' tm'' aN) (pS id (FA n0 E Q)))):WPU C n0 (.block id (.loop c)) tm σ Q:=by
 refine dU E out ?_;apply aL;exact WPU.loopG I n xZ round
variable{σ':Sg}
theorem aO.ghost{P:Program}{f:FuncId}{args args':List U}{R:U->Sg->Prop}(hg:Gh σ.nx args σ args' σ')(hn:σ.nx<=σ'.nx)(h:aO P f args' σ' R):aO P f args σ R:=fun F x vs m w cargs hx hh hfr he hfit hargs=>by
 obtain⟨y,g1,g2,g3,g4,g5,g6⟩:=hg F x vs hx hh hfr he;have hadv:=g1 m w hfit;refine(h F y vs m w cargs g2 g3 g4 g5 hadv.fits (hargs.ext (aG.refl _ _) hadv.nx)).mono ?_;rintro e w₁ ⟨z,aF,u,v,cv,h1,h2,h3,h4,h5,h6,h7,h8,h9⟩;refine⟨z,aF,u,v,cv,h1,h2,hadv.trans h3,h4,h5,h6,h7,?_,?_⟩;have rq:Ke x.σ.nx x y:=by rw[hx];exact g6
 exact rq.trans (h8.le (by rw[hx,g2];exact hn));rw[hx];exact Nat.le_trans hn (by rw[<-g2];exact h9)
variable{tm':List U}
theorem WPU.eqv{c:Code}(ht:tm=tm')(hs:σ=σ')(h:WPU C n0 c tm' σ' Q):WPU C n0 c tm σ Q:=by subst ht;subst hs;exact h
theorem Gh.eqv(ht:tm=tm')(hs:σ=σ'):Gh n0 tm σ tm' σ':=by subst ht;subst hs;exact Gh.refl _ _ _
mutual
inductive Wk:U->U->Prop
 |refl (u:U):Wk u u
 |nil (t:Bool):Wk .nils (.isl t [])
 |full (l:List (List U)):Wk (.isl true l) (.isl false l)
 |agg {l l':List U} (h:jU l l'):Wk (.agg l) (.agg l')
 |tup {l l':List U} (h:jU l l'):Wk (.tup l) (.tup l')
inductive jU:List U->List U->Prop
 |nil:jU [] []
 |cons {u u':U} {l l':List U} (h:Wk u u') (h':jU l l'):jU (u::l) (u'::l')
end
theorem jU.refl:∀l,jU l l
 |[]=>.nil|u::l=>.cons (.refl u) (jU.refl l)
theorem Wk.okC{u u':U}(h:Wk u u'):Vx.okC u'=Vx.okC u:=by cases h<;>rfl
theorem jU.len:∀{l l':List U},jU l l'->l'.length=l.length
 |_,_,.nil=>rfl|_,_,.cons _ h=>by simp[h.len]
theorem jU.okL:∀{l l':List U},jU l l'->Vx.okL l'=Vx.okL l
 |_,_,.nil=>rfl|_,_,.cons h h'=>by simp[Vx.okL,h.okC,h'.okL]
mutual
theorem Wk.rel{x:Cx}{u u':U}{v:Value}(h:Wk u u')(hr:aA x u v):aA x u' v:=by
 cases h with
 |refl=>exact hr|nil t=>simp only[aA]at hr ⊢;exact .inl ⟨trivial,.inl hr⟩
 |full l=>simp only[aA]at hr ⊢;rcases hr with hr |⟨i,off,c,h1,h2,h3⟩;exact .inl hr;exact .inr ⟨i,off,c,h1,by simp,h3⟩
 |agg h=>simp only[aA]at hr ⊢;obtain⟨vs,h1,h2,h3,h4⟩:=hr;exact⟨vs,h1,jU.rel h h2,by rw[h.len,h3],by rw[h.okL,h4]⟩
 |tup h=>simp only[aA]at hr ⊢;obtain⟨vs,h1,h2,h3⟩:=hr;exact⟨vs,h1,jU.rel h h2,by rw[h.len,h3]⟩
theorem jU.rel{x:Cx}{l l':List U}{vs:List Value}(h:jU l l')(hr:bN x l vs):bN x l' vs:=by
 rcases h with _|⟨h,h'⟩;exact hr;rcases vs with _|⟨v,vs⟩;simp[bN]at hr;simp only[bN]at hr ⊢;exact⟨Wk.rel h hr.1,jU.rel h' hr.2⟩
end
theorem Gh.wk(h:jU tm tm'):Gh n0 tm σ tm' σ:=fun F x tv hx hr hf he=>⟨x,fun m w hf=>bA.refl hf,hx,hr,hf,⟨h.rel he.1,by rw[h.len];exact he.2⟩,Ke.refl _ _⟩
theorem Gh.fz{h':List (Nat×B)}(K:Nat)(b:B)(sz:Nat)(hg:gt σ.h K=some b)(hb:∀es cl,b≠.map es cl)(ht:fF K b sz tm=tm')(hh:fzH K b sz σ.h=h'):Gh n0 tm σ tm' ⟨h',σ.nx⟩:=by
 subst ht;subst hh;exact Gh.freeze sz hg hb
theorem CR(h:∀x,(c x).length=sz)(l:List α)(K s:Nat)(e:TypeId)(st:Nat):fz K (.vec (l.map c).flatten e sz st) s (.vl K st 0 l.length)=.isl false (l.map c):=by
 have hl:=tO h l;have hc:=xp h l;simp[fz,beq_eq,hl,hc]
theorem qr(n:Nat):∀(a b:List U),aE n a->aE n b->aE n (a++b)
 |[],b,_,h=>h|u::a,b,h,h'=>by simp only[aE]at h;simp only[List.cons_append,aE];exact⟨h.1,qr n a b h.2 h'⟩
theorem QT{α:Type}{c:α->List U}(n:Nat)(h:∀x,aE n (c x)):∀l:List α,aE n (l.map c).flatten
 |[]=>by simp[aE]
 |x::l=>by simp only[zQ,List.flatten_cons];exact qr n _ _ (h x) (QT n h l)
theorem RU.fcall{T:Tb}{ops r:List Oper}{o:Oper}{cC:Sg}{K:List U->Sg->Prop}{f:FuncId}{args args':List U}{u:U}(hw:bO ops tm o=some true)(hc:fQ T tm o.op=some (f,args))(hg:Gh σ.nx args σ args' cC)(hn:σ.nx<=cC.nx)(hev:aO C.prog f args' cC (fun u' σ'=>u'=u/\σ'=cC))
  (h:RU C T ops r (cQ tm o.dst u) cC K):RU C T ops (o::r) tm σ K:=RU.call hw hc (aO.ghost hg hn hev) (fun u' σ' ⟨h1,h2⟩=>by subst h1;subst h2;exact h)
theorem Cv(c:α->List U)(kk:IntKind)(h:qJ l 0 hi=some k):dN l.length l.length none (some (.int kk hi)) none=some (0,hi.toNat,l.length)/\jY (l.map c) 0 hi.toNat=k.map c:=by
 obtain⟨h1,h2,h3,h4⟩:=we h;exact⟨Ms h2 h3,by rw[qh,<-h4];rfl⟩
theorem OC(c:α->List U)(kk:IntKind)(h:qJ l lo (l.length:Int)=some k):dN l.length l.length (some (.int kk lo)) none none=some (lo.toNat,l.length,l.length)/\jY (l.map c) lo.toNat l.length=k.map c:=by
 obtain⟨h1,h2,h3,h4⟩:=we h;exact⟨Mr h1 h2,by rw[qh,<-h4];simp⟩
def iW:List (Nat×U)->Nat->Option U
 |[],_=>none|(j,u)::l,i=>cond (Nat.beq j i) (some u) (iW l i)
def NT(l:List (Nat×U)):Nat->Nat->List U
 |0,_=>[]|n+1,i=>((iW l i).getD .junk)::NT l n (i+1)
def fr(n:Nat)(l:List (Nat×U)):List U:=NT l n 0
theorem Yd(l:List (Nat×U)):∀n i,(NT l n i).length=n
 |0,_=>rfl|n+1,i=>by simp[NT,Yd l n]
theorem Ye(l:List (Nat×U)):∀n i k,k<n->(NT l n i)[k]? = some ((iW l (i+k)).getD .junk)
 |0,_,_,h=>by omega
 |n+1,i,0,_=>by simp[NT]
 |n+1,i,k+1,h=>by simp only[NT,zH];rw[Ye l n (i+1) k (by omega),show i+1+k=i+(k+1) by omega]
theorem v8(n:Nat)(l:List (Nat×U)):(fr n l).length=n:=Yd l n 0
variable{k:Nat}
theorem CZ(n:Nat)(l:List (Nat×U))(h:k<n):(fr n l)[k]? = some ((iW l k).getD .junk):=by
 have:=Ye l n 0 k h;simpa[fr]using this
variable{n:Nat}
variable{l:List (Nat×U)}
theorem Vy{t:List U}(hl:t.length=n)(h:∀k,k<n->t[k]? = some ((iW l k).getD .junk)):t=fr n l:=by
 apply List.ext_getElem?;intro k;by_cases hk:k<n;rw[h k hk,CZ n l hk];rw[List.getElem?_eq_none (by omega),List.getElem?_eq_none (by rw[v8];omega)]
def aY(n:Nat)(l:List (Nat×U)):Operand->Option U
 |.tmp t=>cond (Nat.blt t n) (iW l t) none|.const v=>eT v
 |.func f=>some (.fn (.func f) [] [])|.global _=>none
variable{o:Operand}
variable{u:U}
theorem cB(h:aY n l o=some u):bD (fr n l) o=some u:=by
 cases o with
 |tmp t=>simp only[aY]at h;rcases hb:Nat.blt t n with _|_;rw[hb]at h;cases h;rw[hb]at h;simp only[zC]at h;simp only[bD,eR];have ht:t<n:=zY hb;rw[CZ n l ht,h];rfl
 |const v=>exact h|func f=>exact h
 |global g=>cases h
def CK(n:Nat)(l:List (Nat×U)):List Operand->Option (List U)
 |[]=>some []|x::r=>match aY n l x with
  |some v=>(match CK n l r with
   |some q=>some (v::q)|none=>none)
  |none=>none
theorem UM{n:Nat}{l:List (Nat×U)}:∀{os:List Operand}{us:List U},CK n l os=some us->iC (fr n l) os=some us
 |[],us,h=>h|o::os,us,h=>by simp only[CK]at h;rcases h1:aY n l o with _|v;simp[h1]at h;rcases h2:CK n l os with _|q;simp[h1,h2]at h;simp only[h1,h2]at h;simp only[iC,cB h1,UM h2];exact h
def rV(n:Nat)(l:List (Nat×U)):List (Nat×Operand)->Option (List (Nat×U))
 |[]=>some []|(i,x)::r=>match aY n l x with
  |some v=>(match rV n l r with
   |some q=>some ((i,v)::q)|none=>none)
  |none=>none
theorem Ct{n:Nat}{l:List (Nat×U)}:∀{os:List (Nat×Operand)}{us:List (Nat×U)},rV n l os=some us->pQ (fr n l) os=some us
 |[],us,h=>h|(i,o)::os,us,h=>by simp only[rV]at h;rcases h1:aY n l o with _|v;simp[h1]at h;rcases h2:rV n l os with _|q;simp[h1,h2]at h;simp only[h1,h2]at h;simp only[pQ,cB h1,Ct h2];exact h
def IJ(l:List (Nat×U)):Option Tmp->U->List (Nat×U)
 |none,_=>l|some d,u=>(d,u)::l
def Ji(n:Nat):Option Tmp->Bool
 |none=>true|some d=>Nat.blt d n
theorem mP{d:Option Tmp}(u:U)(hd:Ji n d=true):cQ (fr n l) d u=fr n (IJ l d u):=by
 rcases d with _|d;rfl;have hlt:d<n:=zY hd;refine Vy (by simp[cQ,v8]) fun k hk=>?_
 simp only[cQ,List.getElem?_set,v8,IJ,iW,beq_eq];by_cases e:d=k;subst e;simp[hlt];simp only[e,if_false,yB,zD];exact CZ n l hk
section
variable{P:Program}{T:Tb}{ops r:List Oper}{o:Oper}{n:Nat}{l:List (Nat×U)}{σ σ':Sg}{K:List U->Sg->Prop}{u:U}
variable{C:PG}
variable{d:Tmp}
theorem RS.op(hw:bO ops (fr n l) o=some true)(h:aV T σ (fr n l) o.op=some (u,σ'))(he:o.dst=some d)(hd:Nat.blt d n=true)(hk:RU C T ops r (fr n ((d,u)::l)) σ' K):RU C T ops (o::r) (fr n l) σ K :=
 .inl ⟨hw,u,σ',h,by rw[he,mP (d:=some d) u hd];exact hk⟩
theorem RS.opn(hw:bO ops (fr n l) o=some true)(h:aV T σ (fr n l) o.op=some (u,σ'))(he:o.dst=none)(hk:RU C T ops r (fr n l) σ' K):RU C T ops (o::r) (fr n l) σ K :=
 .inl ⟨hw,u,σ',h,by rw[he];exact hk⟩
theorem RS.no(hw:bO ops (fr n l) o=some false)(he:o.dst=some d)(hd:Nat.blt d n=true)(hk:RU C T ops r (fr n ((d,.tup [])::l)) σ K):RU C T ops (o::r) (fr n l) σ K :=
 .inr (.inr (.inl ⟨hw,by rw[he,mP (d:=some d) _ hd];exact hk⟩))
variable{b:Bool}
theorem RS.nilq{t e ty:TypeId}{xo yo:Operand}{rs:List (List U)}(hw:bO ops (fr n l) o=some true)(ho:o.op=.binOp .eql t xo yo ty)(hd:T.und t=some (.slice e))(hx:aY n l xo=some (.isl b rs))(hy:aY n l yo=some .nils)(he:o.dst=some d)(hd':Nat.blt d n=true)(hk:∀z:Bool,(z=true->rs=[])->RU C T ops r (fr n ((d,.bool z)::l)) σ K):RU C T ops (o::r) (fr n l) σ K :=
 .inr (.inr (.inr (.inl ⟨hw,t,xo,yo,ty,e,b,rs,ho,hd,cB hx,cB hy,fun z hz=>by rw[he,mP (d:=some d) _ hd'];exact hk z hz⟩)))
theorem RS.step{u:U}{σ':Sg}(hw:bO ops (fr n l) o=some true)(hs:dM C σ (fr n l) o (fun u' cC=>u'=u/\cC=σ'))(he:o.dst=some d)(hd:Nat.blt d n=true)(hk:RU C T ops r (fr n ((d,u)::l)) σ' K):RU C T ops (o::r) (fr n l) σ K :=
 .inr (.inr (.inr (.inr ⟨hw,_,hs,fun u' cC h=>by rw[h.1,h.2,he,mP (d:=some d) _ hd];exact hk⟩)))
theorem RS.done(h:K (fr n l) σ):RU C T ops [] (fr n l) σ K:=h
theorem RS.call{f:FuncId}{args:List U}(hw:bO ops (fr n l) o=some true)(hc:fQ T (fr n l) o.op=some (f,args))(hev:aO C.prog f args σ (fun u' σ'=>u'=u/\σ'=σ))(he:o.dst=some d)(hd:Nat.blt d n=true)(hk:RU C T ops r (fr n ((d,u)::l)) σ K):RU C T ops (o::r) (fr n l) σ K :=
 RU.pcall hw hc hev (by rw[he,mP (d:=some d) u hd];exact hk)
theorem RS.fcall{C:PG}{f:FuncId}{args args':List U}{cC:Sg}(hw:bO ops (fr n l) o=some true)(hc:fQ T (fr n l) o.op=some (f,args))(hg:Gh σ.nx args σ args' cC)(hn:σ.nx<=cC.nx)(hev:aO C.prog f args' cC (fun u' σ'=>u'=u/\σ'=cC)){d:Tmp}(he:o.dst=some d)(hd:Nat.blt d n=true)(hk:RU C T ops r (fr n ((d,u)::l)) cC K):RU C T ops (o::r) (fr n l) σ K :=
 RU.fcall hw hc hg hn hev (by rw[he,mP (d:=some d) u hd];exact hk)
variable{j:Nat}
variable{want:Bool}
theorem Jy(hg:o.guard=some (j,want))(hj:qO ops j=some d)(hl:aY n l (.tmp d)=some (.bool b))(hb:b=want):bO ops (fr n l) o=some true:=by
 have:=cB hl;simp only[bD]at this;simp[bO,hg,hj,this,hb]
theorem Bj(hg:o.guard=some (j,want))(hj:qO ops j=some d)(hl:aY n l (.tmp d)=some (.bool b))(hb:b= !want):bO ops (fr n l) o=some false:=by
 have:=cB hl;simp only[bD]at this;cases want<;>simp[bO,hg,hj,this,hb]
theorem B1{q:List U}(hg:o.guard=some (j,want))(hj:qO ops j=some d)(hl:aY n l (.tmp d)=some (.tup q)):bO ops (fr n l) o=some false:=by
 have:=cB hl;simp only[bD]at this;simp[bO,hg,hj,this]
end
section
variable{P:Program}{T:Tb}{ops r:List Oper}{o:Oper}{n:Nat}{l:List (Nat×U)}{σ σ':Sg}{acc:List RK}{K:List RK->List U->Sg->Prop}{u:U}
variable{d:Tmp}
theorem RD.look(hw:bO ops (fr n l) o=some true)(h:aV T σ (fr n l) o.op=some (u,σ))(he:o.dst=some d)(hd:Nat.blt d n=true)(hk:RH P T ops r (fr n ((d,u)::l)) σ ((1,⟨fr n l,o,u,false,false,σ,σ⟩)::acc) K):RH P T ops (o::r) (fr n l) σ acc K :=
 .inl ⟨hw,u,h,by rw[he,mP (d:=some d) u hd];exact hk⟩
theorem RD.act(hw:bO ops (fr n l) o=some true)(h:aV T σ (fr n l) o.op=some (u,σ'))(he:o.dst=some d)(hd:Nat.blt d n=true)(hk:RH P T ops r (fr n ((d,u)::l)) σ' ((3,⟨fr n l,o,u,true,true,σ,σ'⟩)::acc) K):RH P T ops (o::r) (fr n l) σ acc K :=
 .inr (.inl ⟨hw,u,σ',h,by rw[he,mP (d:=some d) u hd];exact hk⟩)
theorem SN(hw:bO ops (fr n l) o=some true)(h:aV T σ (fr n l) o.op=some (u,σ'))(he:o.dst=none)(hk:RH P T ops r (fr n l) σ' ((3,⟨fr n l,o,u,true,true,σ,σ'⟩)::acc) K):RH P T ops (o::r) (fr n l) σ acc K :=
 .inr (.inl ⟨hw,u,σ',h,by rw[he];exact hk⟩)
theorem RD.no(hw:bO ops (fr n l) o=some false)(he:o.dst=some d)(hd:Nat.blt d n=true)(hk:RH P T ops r (fr n ((d,.tup [])::l)) σ ((0,⟨fr n l,o,.tup [],false,false,σ,σ⟩)::acc) K):RH P T ops (o::r) (fr n l) σ acc K :=
 .inr (.inr (.inr (.inr (.inl ⟨hw,by rw[he,mP (d:=some d) _ hd];exact hk⟩))))
theorem RD.free{f:FuncId}{args:List U}(hw:bO ops (fr n l) o=some true)(hc:fQ T (fr n l) o.op=some (f,args))(hev:∀s,aO P f args s (fun u' σ'=>u'=u/\σ'=s))(he:o.dst=some d)(hd:Nat.blt d n=true)(hk:RH P T ops r (fr n ((d,u)::l)) σ ((0,⟨fr n l,o,u,false,false,σ,σ⟩)::acc) K):RH P T ops (o::r) (fr n l) σ acc K :=
 .inr (.inr (.inr (.inr (.inr (.inl ⟨hw,u,.inl ⟨f,args,hc,hev⟩,by rw[he,mP (d:=some d) u hd];exact hk⟩)))))
theorem RD.freeO(hw:bO ops (fr n l) o=some true)(hf:mO P T (fr n l) o.op u)(he:o.dst=some d)(hd:Nat.blt d n=true)(hk:RH P T ops r (fr n ((d,u)::l)) σ ((0,⟨fr n l,o,u,false,false,σ,σ⟩)::acc) K):RH P T ops (o::r) (fr n l) σ acc K :=
 .inr (.inr (.inr (.inr (.inr (.inl ⟨hw,u,hf,by rw[he,mP (d:=some d) u hd];exact hk⟩)))))
theorem dM.fz{C:PG}(hT:eZ C.prog T){u1:U}{s1 σ':Sg}(h:aV T σ (fr n l) o.op=some (u1,s1))(hg:Gh s1.nx [u1] s1 [u] σ')(hn:s1.nx<=σ'.nx)(he:o.dst=some d)(hd:Nat.blt d n=true):dM C σ (fr n l) o (fun u' cC=>u'=u/\cC=σ'):=
 fun F x tv m w a next Q hxσ st hG hk ro hro=>oM (FJ h) (St.opfz hT st o (by rw[hxσ];exact h) he (by rw[v8];rwa [Nat.blt_eq]at hd) hg hn fun y tv' aF w₁ aS e1 st' hadv hke hnx hdf=>hk u y tv' aF w₁ aS ⟨rfl,e1⟩ st' hadv hke hnx hdf)
theorem RD.call{f:FuncId}{args:List U}(hw:bO ops (fr n l) o=some true)(hc:fQ T (fr n l) o.op=some (f,args))(hev:aO P f args σ (fun u' σ'=>u'=u/\σ'=σ)){d:Tmp}(he:o.dst=some d)(hd:Nat.blt d n=true)(hk:RH P T ops r (fr n ((d,u)::l)) σ ((2,⟨fr n l,o,u,true,false,σ,σ⟩)::acc) K):RH P T ops (o::r) (fr n l) σ acc K :=
 RH.call hw hc hev (by rw[he,mP (d:=some d) u hd];exact hk)
theorem aZ(h:K acc (fr n l) σ):RH P T ops [] (fr n l) σ acc K:=h
end
def AR(l:List (Nat×U)):List (Nat×U)->Prop
 |[]=>True|(i,u)::r=>iW l i=some u/\AR l r
theorem qw{l:List (Nat×U)}:∀{r:List (Nat×U)},AR l r->∀i u,iW r i=some u->iW l i=some u
 |[],_,i,u,h=>by cases h
 |(j,v)::r,hs,i,u,h=>by simp only[AR]at hs;simp only[iW,beq_eq]at h;by_cases e:j=i;subst e;simp at h;subst h;exact hs.1;simp only[e,yB,zD]at h;exact qw hs.2 i u h
theorem My{x:Cx}{tv:List Value}(hl:tv.length=n)(h:∀i u,i<n->iW l i=some u->∃v,tv[i]? = some v/\aA x u v):aQ x (fr n l) tv:=by
 refine aQ.mk' (by rw[v8,hl]) fun i u hi=>?_;have hlt:i<n:=by have:=(zG.1 hi).1;rwa [v8]at this
 rw[CZ n l hlt]at hi;cases hk:iW l i with
 |none=>rw[hk]at hi;simp at hi;subst hi;exact⟨tv[i],List.getElem?_eq_getElem (by omega),by simp[aA]⟩|some w=>rw[hk]at hi;simp at hi;subst hi;exact h i w hlt hk
theorem zd{x:Cx}{tv:List Value}(he:aQ x (fr n l) tv){i:Nat}(hi:i<n)(h:iW l i=some u):∃v,tv[i]? = some v/\aA x u v :=
 he.get (by rw[CZ n l hi,h];rfl)
variable{n0:Nat}
variable{l':List (Nat×U)}
variable{σ:Sg}
theorem Gh.sub(h:AR l l'):Gh n0 (fr n l) σ (fr n l') σ:=fun F x tv hx hr hf he=>
 ⟨x,fun m w hf=>bA.refl hf,hx,hr,hf,My (by rw[<-he.2,v8]) (fun i u hi hl=>zd he hi (qw h i u hl)),Ke.refl _ _⟩
def DX:Nat->List U->List (Nat×U)
 |_,[]=>[]|i,u::l=>(i,u)::DX (i+1) l
theorem zk:∀(l:List U)(i k:Nat)(u:U),iW (DX i l) k=some u->i<=k/\l[k-i]? = some u
 |[],i,k,u,h=>by cases h
 |v::l,i,k,u,h=>by simp only[DX,iW,beq_eq]at h;by_cases e:i=k;subst e;simp at h;subst h;simp;simp only[e,yB,zD]at h;obtain⟨h1,h2⟩:=zk l (i+1) k u h;refine⟨by omega,?_⟩;rw[show k-i=(k-(i+1))+1 by omega];simpa using h2
theorem Zf:∀(n:Nat)(l:List U)(k:Nat)(u:U),l[k]? = some u->(uT n l)[k]? = some u
 |0,l,k,u,h=>h|n+1,[],k,u,h=>by simp at h
 |n+1,v::l,0,u,h=>by simpa[uT]using h
 |n+1,v::l,k+1,u,h=>by simp only[uT,zH]at*;exact Zf n l k u h
theorem Oq:∀(n:Nat)(l:List U),l.length<=n->(uT n l).length=n
 |0,l,h=>by simp[uT];exact List.eq_nil_of_length_eq_zero (by omega)
 |n+1,[],h=>by simp[uT,Oq n [] (by simp)]
 |n+1,v::l,h=>by simp[uT,Oq n l (by simpa using h)]
theorem P0{args:List U}(h:args.length<=n):Gh n0 (uT n args) σ (fr n (DX 0 args)) σ:=fun F x tv hx hr hf he=>
 ⟨x,fun m w hf=>bA.refl hf,hx,hr,hf,My (by rw[<-he.2,Oq n args h]) (fun i u hi hl=>by obtain⟨_,h2⟩:=zk args 0 i u hl;exact he.get (Zf n args i u (by simpa using h2))),Ke.refl _ _⟩
def BelS(n:Nat):List (Nat×U)->Prop
 |[]=>True|(_,u)::l=>aJ n u/\BelS n l
theorem wm{n:Nat}:∀{l:List (Nat×U)},BelS n l->∀i u,iW l i=some u->aJ n u
 |[],_,i,u,h=>by cases h
 |(j,v)::l,hb,i,u,h=>by simp only[BelS]at hb;simp only[iW,beq_eq]at h;by_cases e:j=i;subst e;simp at h;subst h;exact hb.1;simp only[e,yB,zD]at h;exact wm hb.2 i u h
theorem V5{n1:Nat}(h:BelS n1 l):aE n1 (fr n l):=by
 rw[sF];intro u hu;obtain⟨i,hi,rfl⟩:=List.getElem_of_mem hu;have hlt:i<n:=by rwa [v8]at hi
 have:=CZ n l hlt;rw[List.getElem?_eq_getElem hi]at this;simp only[zA]at this;rw[this];rcases hk:iW l i with _|w;simp[aJ];exact wm h i w hk
theorem Gh.toS{n1:Nat}{σ':Sg}(ht:AR l l')(hs:(⟨Vx.cut n1 σ.h,n1⟩:Sg)=σ')(h1:n0<=n1)(h2:n1<=σ.nx)(hb:BelS n1 l')(hh:uW n1 σ'.h):Gh n0 (fr n l) σ (fr n l') σ':=by
 subst hs;exact(Gh.sub ht).trans (Gh.cut h1 h2 (V5 hb) hh)
theorem C8{σ':Sg}(ht:AR l l')(hs:σ=σ'):Gh n0 (fr n l) σ (fr n l') σ':=by
 subst hs;exact Gh.sub ht
def fzS(K:Nat)(b:B)(sz:Nat):List (Nat×U)->List (Nat×U)
 |[]=>[]|(i,u)::l=>(i,fz K b sz u)::fzS K b sz l
theorem Zv(K:Nat)(b:B)(sz:Nat):∀(l:List (Nat×U))(i:Nat),iW (fzS K b sz l) i=(iW l i).map (fz K b sz)
 |[],i=>rfl|(j,u)::l,i=>by simp only[fzS,iW,beq_eq,Zv K b sz l i];by_cases e:j=i<;>simp[e]
theorem NR(K:Nat)(b:B)(sz n:Nat)(l:List (Nat×U)):fF K b sz (fr n l)=fr n (fzS K b sz l):=by
 refine Vy (by rw[KQ,v8]) fun k hk=>?_;have hm:∀(t:List U)(k:Nat),(fF K b sz t)[k]? = (t[k]?).map (fz K b sz):=by
  intro t;induction t with
  |nil=>intro k;simp[fF]|cons u t ih=>intro k;cases k<;>simp[fF,ih]
 rw[hm,CZ n l hk,Zv];rcases iW l k with _|w;simp[QE];rfl
theorem Gh.fzS{h':List (Nat×B)}(K:Nat)(b:B)(sz:Nat)(hg:gt σ.h K=some b)(hb:∀es cl,b≠.map es cl)(ht:Vx.fzS K b sz l=l')(hh:fzH K b sz σ.h=h'):Gh n0 (fr n l) σ (fr n l') ⟨h',σ.nx⟩:=by
 subst ht;subst hh;rw[<-NR];exact Gh.freeze sz hg hb
inductive SK:List (Nat×U)->List (Nat×U)->Prop
 |nil:SK [] []
 |cons {i:Nat} {u u':U} {l l':List (Nat×U)} (h:Wk u u') (h':SK l l'):SK ((i,u)::l) ((i,u')::l')
theorem SK.look:∀{l l':List (Nat×U)},SK l l'->∀i u',iW l' i=some u'->∃u,iW l i=some u/\Wk u u'
 |_,_,.nil,i,u',h=>by cases h
 |_,_,.cons (i:=j) h h',i,u',hu=>by simp only[iW,beq_eq]at hu ⊢;by_cases e:j=i;subst e;simp at hu;subst hu;exact⟨_,by simp,h⟩;simp only[e,yB,zD]at hu ⊢;exact h'.look i u' hu
theorem Gh.wkS(h:SK l l'):Gh n0 (fr n l) σ (fr n l') σ:=fun F x tv hx hr hf he=>
 ⟨x,fun m w hf=>bA.refl hf,hx,hr,hf,My (by rw[<-he.2,v8]) (fun i u hi hl=>by obtain⟨w,h1,h2⟩:=h.look i u hl;obtain⟨v,h3,h4⟩:=zd he hi h1;exact⟨v,h3,h2.rel h4⟩),Ke.refl _ _⟩
theorem Gh.nilS(i:Nat)(e:TypeId)(sz:Nat)(hsz:0<sz)(h0:n0<=σ.nx)(hi:aY n l (.tmp i)=some .nils)(hd:Ji n (some i)=true):Gh n0 (fr n l) σ (fr n ((i,.vl σ.nx 0 0 0)::l)) (newU σ (.vec [] e sz 0)):=by
 have h1:=cB hi;have h2:=Gh.nilvec (n0:=n0) (σ:=σ) i e sz hsz h0 (tm:=fr n l) h1;have h3:=mP (n:=n) (l:=l) (d:=some i) (.vl σ.nx 0 0 0) hd;simp only[cQ,IJ]at h3
 rwa [h3]at h2
variable{c:Operand}
variable{t:Bool}
theorem cU{C:PG}{Q:Exit->List U->Sg->Prop}{p q:Code}(hc:aY n l c=some (.bool t))(h1:t=true->WPU C n0 p (fr n l) σ Q)(h2:t=false->WPU C n0 q (fr n l) σ Q):WPU C n0 (.cond c p q) (fr n l) σ Q:=WPU.cond (cB hc) h1 h2
variable{T:Tb}
variable{us:List U}
theorem dO{t:Tmp}{rs:List ResultVar}(h:aY n l (.tmp t)=some u)(hr:gD T σ (fr n l) rs=some us):gD T σ (fr n l) (.tmp t::rs)=some (u::us):=by
 have:=cB h;simp only[bD]at this;simp[gD,this,hr]
theorem dX:gD T σ (fr n l) []=some []:=rfl
variable{t:TypeId}
theorem qL{a:Tmp}{rs:List ResultVar}(h:aV T σ (fr n l) (.load t (.tmp a))=some (u,σ))(hr:gD T σ (fr n l) rs=some us):gD T σ (fr n l) (.cell a t::rs)=some (u::us):=by
 have:kN T σ (fr n l) (.load t (.tmp a))=some u:=by have hp:eH T σ (fr n l) (.load t (.tmp a))=none:=rfl;have he:jN T σ (fr n l) (.load t (.tmp a))=none:=rfl;unfold aV at h;rw[hp]at h;simp only at h;rcases hr:kN T σ (fr n l) (.load t (.tmp a))with _|v;rw[hr,he]at h;cases h;rw[hr]at h;simp at h;rw[h]
 simp[gD,this,hr]
section
variable{T:Tb}{σ σ':Sg}{n:Nat}{l:List (Nat×U)}{u v w:U}
theorem nI{op:Op}(h:eH T σ (fr n l) op=some u):aV T σ (fr n l) op=some (u,σ):=by simp[aV,h]
theorem ER{op:Op}(h0:eH T σ (fr n l) op=none)(h:kN T σ (fr n l) op=some u):aV T σ (fr n l) op=some (u,σ):=by simp[aV,h,h0]
variable{q:U×Sg}
theorem AT{op:Op}(h0:eH T σ (fr n l) op=none)(h1:kN T σ (fr n l) op=none)(h:jN T σ (fr n l) op=some q):aV T σ (fr n l) op=some q:=by simp[aV,h,h0,h1]
variable{x:Operand}
theorem lJ(h:aY n l x=some u):aV T σ (fr n l) (.move x)=some (u,σ):=nI (cB h)
theorem zg(h:aY n l x=some u):aV T σ (fr n l) (.assign x)=some (u,σ):=nI (cB h)
variable{a:Operand}
theorem Zl{b:Operand}{t:Bool}(hc:aY n l c=some (.bool t))(ht:t=true)(h:aY n l a=some u):aV T σ (fr n l) (.pick c a b)=some (u,σ):=nI (by subst ht;simp only[eH,cB hc];exact cB h)
theorem Zm{b:Operand}{t:Bool}(hc:aY n l c=some (.bool t))(ht:t=false)(h:aY n l b=some u):aV T σ (fr n l) (.pick c a b)=some (u,σ):=nI (by subst ht;simp only[eH,cB hc];exact cB h)
variable{off:Nat}
theorem tI{st:Nat}(h:aY n l x=some (.ptr k st off))(hl:live σ k st=true):aV T σ (fr n l) (.nilCheck x)=some (.ptr k st off,σ):=nI (by simp only[eH,cB h,hl,zC])
theorem VE{ps:Array (Nat×Operand)}{qs:List (Nat×U)}(h:rV n l ps.toList=some qs)(hb:Q6 T t qs=some u):aV T σ (fr n l) (.build t ps)=some (u,σ):=nI (by simp only[eH,Ct h,hb])
variable{t':TypeId}
variable{y:Operand}
theorem Vh{op:BinOp}(hx:aY n l x=some v)(hy:aY n l y=some w)(h:g2 (mN T op t) v w=some u):aV T σ (fr n l) (.binOp op t x y t')=some (u,σ):=nI (by simp only[eH,cB hx,cB hy,A4,h])
theorem M3{op:BinOp}(hx:aY n l x=some v)(hy:aY n l y=some w)(h0:g2 (mN T op t) v w=none)(h:PU T σ op t v w=some u):aV T σ (fr n l) (.binOp op t x y t')=some (u,σ):=nI (by simp only[eH,cB hx,cB hy,A4,h0,h])
variable{k:IntKind}
variable{r:Value}
theorem pO{op:BinOp}{k':IntKind}{a b:Int}(hx:aY n l x=some (.int k a))(hy:aY n l y=some (.int k' b))(h:fP op k a k' b=some r)(hr:eT r=some u):aV T σ (fr n l) (.binOp op t x y t')=some (u,σ):=Vh hx hy (by simp only[g2,toV,mN,h,hr])
theorem v7{op:BinOp}{a b:List UInt8}(hx:aY n l x=some (.str a))(hy:aY n l y=some (.str b))(h:w7 op ⟨⟨a⟩⟩ ⟨⟨b⟩⟩=some r)(hr:eT r=some u):aV T σ (fr n l) (.binOp op t x y t')=some (u,σ):=Vh hx hy (by simp only[g2,toV,mN,h,hr])
theorem GK{op:UnOp}(hx:aY n l x=some v)(h:toV v=some (r)){q:Value}(hu:EY op r=some q)(hq:eT q=some u):aV T σ (fr n l) (.unOp op t x)=some (u,σ):=nI (by simp only[eH,cB hx,g1,h,hu,hq])
theorem Xr{s d:TypeId}{q:Value}(hx:aY n l x=some v)(h:toV v=some r)(hu:KF T s d r=some q)(hq:eT q=some u):aV T σ (fr n l) (.convert s d x)=some (u,σ):=nI (by simp only[eH,cB hx,g1,h,hu,hq])
theorem Cj{f:Fn}{first cap:Array Operand}{a b:List U}(h1:CK n l first.toList=some a)(h2:CK n l cap.toList=some b):aV T σ (fr n l) (.makeFunc f first cap)=some (.fn f a b,σ):=nI (by simp only[eH,UM h1,UM h2])
variable{k:Nat}
theorem qN{f:Nat}{fs:Array Field}{fd:Field}{s st:Nat}(hd:T.und t=some (.struct fs))(hf:nth fs.toList f=some fd)(hs:bJ T fd.type=some (s+1))(hx:aY n l x=some (.ptr k st off))(hl:live σ k st=true){off':Nat}(ho:off+fd.offset=off'):aV T σ (fr n l) (.fieldAddr t x f)=some (.ptr k st off',σ):=nI (by subst ho;simp only[eH,cB hx,VQ,hd,hf,hs,hl,zC])
variable{q:List U}
theorem Kg{f:Nat}{fs:Array Field}{fd:Field}{s:Nat}(hd:T.und t=some (.struct fs))(hf:nth fs.toList f=some fd)(hs:bJ T fd.type=some (s+1))(hx:aY n l x=some (.iptr q)){q':List U}(hq:q.drop fd.offset=q'):aV T σ (fr n l) (.fieldAddr t x f)=some (.iptr q',σ):=nI (by subst hq;simp only[eH,cB hx,VQ,hd,hf,hs])
theorem Vf{i:Nat}(hx:aY n l x=some (.tup q))(h:nth q i=some u):aV T σ (fr n l) (.extract x i)=some (u,σ):=nI (by simp only[eH,cB hx,Dz,h])
theorem eJ{i:Operand}(hx:aY n l x=some v)(hi:aY n l i=some w)(h:sE T σ t v w=some u):aV T σ (fr n l) (.indexAddr t x i)=some (u,σ):=nI (by simp only[eH,cB hx,cB hi,h])
variable{α:Type}
variable{e:TypeId}
variable{sz:Nat}
variable{b:Bool}
variable{xs:List α}
variable{i:Int}
theorem PZ(c:α->List U){k:IntKind}{x:α}(hd:T.und t=some (.slice e))(hs:bJ T e=some sz)(hc:∀x,(c x).length=sz)(hx:aC xs i=some x)(hq:c x=q):sE T σ t (.isl b (xs.map c)) (.int k i)=some (.iptr q):=by
 subst hq;obtain⟨h1,h2,h3⟩:=td c hx;have:Nat.beq (c x).length sz=true:=by simp[beq_eq,hc]
 simp only[sE,hd,hs,yA,h1,h2,and_self,if_true,h3,this,zC]
variable{e':TypeId}
variable{K:Nat}
theorem lG(c:α->List U){st:Nat}{k:IntKind}{x:α}(hd:T.und t=some (.slice e))(hs:bJ T e=some sz)(hz:0<sz)(hc:∀x,(c x).length=sz)(hv:iU σ K st=some ((xs.map c).flatten,e',sz))(hx:aC xs i=some x):sE T σ t (.vl K st 0 xs.length) (.int k i)=some (.ptr K st (0*sz+i.toNat*sz)):=by
 obtain⟨h1,h2,h3⟩:=QO hx;have hne:=IY hc hz hx;have hb:Nat.beq sz sz=true:=by simp[beq_eq]
 simp only[sE,hd,hs,hv,hb,zC,h1,h2,ne_eq,hne,not_false_eq_true,and_self,if_true]
variable{d:TypeDesc}
theorem MF(c:α->List U){st:Nat}{x:α}(hd:T.und t=some d)(ha:kQ d=true)(hs:bJ T t=some sz)(hc:∀x,(c x).length=sz)(ho:aY n l o=some (.ptr K st (0*sz+i.toNat*sz)))(hv:gt σ.h K=some (.vec (xs.map c).flatten e' sz st))(hx:aC xs i=some x)(hq:c x=q):aV T σ (fr n l) (.load t o)=some (.agg q,σ):=by
 subst hq;refine ER rfl ?_;have hb:Nat.beq st st=true:=by simp[beq_eq]
 simp only[kN,cB ho,cellsOf,hv,hb,zC,uY,hd,ha,hs,Wt hc hx]
theorem qQ(c:α->List U){st:Nat}{x:α}(f:α->U)(hd:T.und t=some d)(ha:kQ d=false)(hc:∀x,c x=[f x])(ho:aY n l o=some (.ptr K st (0*1+i.toNat*1)))(hv:gt σ.h K=some (.vec (xs.map c).flatten e' 1 st))(hx:aC xs i=some x):aV T σ (fr n l) (.load t o)=some (f x,σ):=by
 refine ER rfl ?_;have hb:Nat.beq st st=true:=by simp[beq_eq]
 simp only[kN,cB ho,cellsOf,hv,hb,zC,uY,hd,ha,zD,yg (fun x=>by rw[hc];rfl) hc hx]
theorem BK{lo hi mx:Option Operand}{a b c:Option Value}(hx:aY n l x=some v)(h1:nZ (fr n l) lo=some a)(h2:nZ (fr n l) hi=some b)(h3:nZ (fr n l) mx=some c)(h:FG T σ t v a b c=some u):aV T σ (fr n l) (.slice t x lo hi mx)=some (u,σ):=nI (by simp only[eH,cB hx,h1,h2,h3,h])
theorem nW:nZ (fr n l) none=some none:=rfl
theorem CL{k:IntKind}{z:Int}(h:aY n l o=some (.int k z)):nZ (fr n l) (some o)=some (some (.int k z)):=by simp only[nZ,cB h]
theorem UD(c:α->List U){a h m:Nat}{ys:List α}{lo hi:Option Value}(hd:T.und t=some (.slice e))(hs:bJ T e=some sz)(hc:∀x,(c x).length=sz)(hb:dN xs.length xs.length lo hi none=some (a,h,m))(hy:jY (xs.map c) a h=ys.map c):FG T σ t (.isl b (xs.map c)) lo hi none=some (.isl (cond b (Nat.beq h xs.length) false) (ys.map c)):=by
 simp only[FG,hd,hs,Oe hc xs,if_true,yA,hb,hy]
variable{args:Array Operand}
variable{ts:Array TypeId}
theorem B6(ha:args.toList=[x]){q:List TypeId}(ht:ts.toList=t::q)(hx:aY n l x=some v)(h:oI T σ t v=some u):aV T σ (fr n l) (.call { callee:=.builtin .len,args:=args,argTypes:=ts })=some (u,σ):=nI (by simp only[eH,ha,ht,iC,cB hx,h])
theorem Xy(c:α->List U)(hd:T.und t=some (.slice e)):oI T σ t (.isl b (xs.map c))=some (.int .i64 xs.length):=by simp[oI,hd]
theorem M4{xs:List Operand}{a:Value}{b:List Value}(ha:args.toList=x::xs)(hx:aY n l x=some v)(hl:CK n l xs=some us)(h1:toV v=some a)(h2:j0 us=some b)(h:pM FE a b=some r)(hr:eT r=some u):aV T σ (fr n l) (.call { callee:=.builtin .min,args:=args,argTypes:=ts })=some (u,σ):=nI (by simp only[eH,ha,iC,cB hx,UM hl,h1,h2,h,hr])
variable{cs:List U}
theorem pP{st:Nat}(hd:T.und t=some d)(ha:kQ d=true)(hs:bJ T t=some sz)(hx:aY n l x=some (.ptr k st off))(hc:cellsOf σ k st=some q)(h:fI q off sz=some cs):aV T σ (fr n l) (.load t x)=some (.agg cs,σ):=ER rfl (by simp only[kN,cB hx,hc,uY,hd,ha,hs,h,zC])
theorem CV{st:Nat}(hd:T.und t=some d)(ha:kQ d=false)(hx:aY n l x=some (.ptr k st off))(hc:cellsOf σ k st=some q)(h:nth q off=some u):aV T σ (fr n l) (.load t x)=some (u,σ):=ER rfl (by simp only[kN,cB hx,hc,uY,hd,ha,h,zD])
theorem Vn(hd:T.und t=some d)(ha:kQ d=true)(hs:bJ T t=some sz)(hx:aY n l x=some (.iptr q))(h:fI q 0 sz=some cs):aV T σ (fr n l) (.load t x)=some (.agg cs,σ):=ER rfl (by simp only[kN,cB hx,uY,hd,ha,hs,h,zC])
theorem UI(hd:T.und t=some d)(ha:kQ d=false)(hx:aY n l x=some (.iptr q))(h:nth q 0=some u):aV T σ (fr n l) (.load t x)=some (u,σ):=ER rfl (by simp only[kN,cB hx,uY,hd,ha,h,zD])
theorem M5(hx:aY n l x=some v)(h:o0 v=some cs)(hk:okL cs=true):aV T σ (fr n l) (.box e x)=some (.ptr σ.nx 0 0,newU σ (.row cs e)):=AT rfl rfl (by simp only[jN,cB hx,h,hk,zC])
variable{z:Value}
theorem sf{a b:Nat}{zu:List U}(hi:T.inf e=some (a,b,z))(hz:jF z.cells.toList=some zu)(hk:okL zu=true):aV T σ (fr n l) (.alloc e)=some (.ptr σ.nx 0 0,newU σ (.row zu e)):=AT rfl rfl (by simp only[jN,hi,hz,hk,zC])
theorem se{st:Nat}{q':List U}(hs:bJ T t=some sz)(ha:aY n l a=some (.ptr k st off))(hx:aY n l x=some v)(hc:o0 v=some cs)(hl:Nat.beq cs.length sz=true)(hk:okL cs=true)(hg:cellsOf σ k st=some q)(hp:jW q off (uO σ k cs)=some q')(hσ:B3 σ k q'=some σ'):aV T σ (fr n l) (.store t a x)=some (.junk,σ'):=AT rfl rfl (by simp only[jN,cB ha,cB hx,KH,hs,hc,hl,hk,zC,hg,hp,hσ])
theorem Y2{ps:Array (Nat×Operand)}{qs:List (Nat×U)}{q:U×Sg}(h:rV n l ps.toList=some qs)(hb:VV T σ t k qs=some q):aV T σ (fr n l) (.buildSlice t k ps)=some q:=AT rfl rfl (by simp only[jN,Ct h,hb])
theorem Y1{q:U×Sg}(hx:aY n l x=some v)(hy:aY n l y=some w)(hb:U5 T σ t v w=some q):aV T σ (fr n l) (.makeSlice t x y)=some q:=AT rfl rfl (by simp only[jN,cB hx,cB hy,hb])
variable{xt:TypeId}
theorem m8{q:U×Sg}(ha:args.toList=[x,y])(ht:ts.toList=[t,xt])(hx:aY n l x=some v)(hy:aY n l y=some w)(h:sD T σ t xt v w=some q):aV T σ (fr n l) (.call { callee:=.builtin .append,args:=args,argTypes:=ts })=some q:=AT rfl rfl (by simp only[jN,ha,ht,iC,cB hx,cB hy,Ec,h])
theorem wQ{c:Call}{f:Operand}{g:FuncId}{fn:Func}{first cap a7:List U}(hc:c.callee=.value f)(hf:aY n l f=some (.fn (.func g) first cap))(hg:T.fn g=some fn)(hb:fn.body.isSome=true)(ha:CK n l c.args.toList=some a7){args:List U}(he:first++a7++cap=args):fQ T (fr n l) (.call c)=some (g,args):=by subst he;simp only[fQ,hc,cB hf,hg,hb,zC,UM ha]
variable{e2:TypeId}
variable{by_:Nat}
theorem Ob(c:α->List U)(ys:List α)(hd:T.und t=some (.slice e))(bX:T.und xt=some (.slice e2))(hi:T.inf e=some (sz+1,by_,z))(hz:Nat.beq z.cells.toList.length (sz+1)=true)(hw:m7 σ (sz+1) w=some (ys.length,(ys.map c).flatten))(hr:ys.length*by_<=140737488355328/\ys.length<=140737488355328):sD T σ t xt .nils w=some (.vl σ.nx 0 0 ys.length,newU σ (.vec (ys.map c).flatten e (sz+1) 0)):=by
 simp only[sD,hd,bX,hi,hz,zC,hw,hr,and_self,if_true]
theorem Oc(c:α->List U)(ys:List α){a:Nat}(hd:T.und t=some (.slice e))(bX:T.und xt=some (.slice e2))(hi:T.inf e=some (sz+1,by_,z))(hz:Nat.beq z.cells.toList.length (sz+1)=true)(hq:rowOf σ a=some q)(ho:Nat.ble off q.length=true)(hw:m7 σ (sz+1) w=some (ys.length,(ys.map c).flatten))(hr:ys.length*by_<=140737488355328/\ys.length<=140737488355328):sD T σ t xt (.sl a off 0 0) w=some (.vl σ.nx 0 0 ys.length,newU σ (.vec (ys.map c).flatten e (sz+1) 0)):=by
 have ho':=zY ho;have:fI q off (0*(sz+1))=some []:=by simp[fI,ho']
 simp only[sD,hd,bX,hi,hz,zC,hw,hq,this,hr,and_self,if_true]
theorem tK(c:α->List U)(ys:List α){a st:Nat}(hd:T.und t=some (.slice e))(bX:T.und xt=some (.slice e2))(hi:T.inf e=some (sz+1,by_,z))(hz:Nat.beq z.cells.toList.length (sz+1)=true)(hc:∀x,(c x).length=sz+1)(hg:gt σ.h a=some (.vec (xs.map c).flatten e (sz+1) st))(hw:m7 σ (sz+1) w=some (ys.length,(ys.map c).flatten))(hr:(xs.length+ys.length)*by_<=140737488355328/\xs.length+ys.length<=140737488355328):sD T σ t xt (.vl a st 0 xs.length) w=some (.vl a (st+1) 0 (xs++ys).length,⟨ug σ.h a (.vec ((xs++ys).map c).flatten e (sz+1) (st+1)),σ.nx⟩):=by
 have b1:Nat.beq st st=true:=by simp[beq_eq]
 have b2:Nat.beq e e=true:=by simp[beq_eq]
 have b3:Nat.beq (sz+1) (sz+1)=true:=by simp[beq_eq]
 have hs:=yp hc xs;have hl:=tO hc xs;rw[Ow,zU];simp only[sD,hd,bX,hi,hz,zC,hw,hg,b1,b2,b3,hs,hl,hr.1,hr.2,true_and,and_true,or_true,if_true]
theorem bn(c:α->List U)(ys:List α)(hd:T.und t=some (.slice e))(bX:T.und xt=some (.slice e2))(hi:T.inf e=some (sz+1,by_,z))(hz:Nat.beq z.cells.toList.length (sz+1)=true)(hc:∀x,(c x).length=sz+1)(hw:m7 σ (sz+1) w=some (ys.length,(ys.map c).flatten))(hk:0<ys.length)(hr:(xs.length+ys.length)*by_<=140737488355328/\xs.length+ys.length<=140737488355328):sD T σ t xt (.isl true (xs.map c)) w=some (.vl σ.nx 0 0 (xs++ys).length,newU σ (.vec ((xs++ys).map c).flatten e (sz+1) 0)):=by
 rw[Ow,zU];simp only[sD,hd,bX,hi,hz,zC,hw,yA,hr,hk,Oe hc xs,and_self,if_true]
theorem UU(c:α->List U)(hc:∀x,(c x).length=sz):m7 σ sz (.isl b (xs.map c))=some (xs.length,(xs.map c).flatten):=by simp only[m7,Oe hc xs,if_true,yA]
theorem vA(c:α->List U)(ys:List α)(hq:rowOf σ K=some q)(hs:fI q off (k*sz)=some cs)(hl:k=ys.length)(hc:kJ cs=(ys.map c).flatten):m7 σ sz (.sl K off k k)=some (ys.length,(ys.map c).flatten):=by
 subst hl;simp only[m7,hq,hs,hc]
theorem bQ{a b:Nat}(h:T.inf t=some (a,b,z)):bJ T t=some a:=by simp only[bJ,h]
theorem vo{st:Nat}(h:gt σ.h K=some (.vec q e sz st)):iU σ K st=some (q,e,sz):=by
 have b:Nat.beq st st=true:=by simp[beq_eq]
 simp only[iU,h,b,zC]
theorem Mf{st m:Nat}(hd:T.und t=some (.slice e))(h:gt σ.h K=some (.vec q e' sz st)):oI T σ t (.vl K st 0 m)=some (.int .i64 m):=by
 have b:Nat.beq st st=true:=by simp[beq_eq]
 simp only[oI,hd,live,h,B.st,b,zC]
end
theorem MW(k:IntKind)(a b:Int):fP .add k a k b=some (.int k (k.wrap (a+b))):=by simp[fP]
theorem MM(k:IntKind)(a b:Int):fP .sub k a k b=some (.int k (k.wrap (a-b))):=by simp[fP]
theorem MQ(k:IntKind)(a b:Int):fP .mul k a k b=some (.int k (k.wrap (a*b))):=by simp[fP]
theorem Co(k:IntKind){a b:Int}(h:¬ b=0):fP .quo k a k b=some (.int k (k.wrap (a.tdiv b))):=by simp[fP,h]
theorem Vp(k:IntKind){a b:Int}(h:¬ b=0):fP .rem k a k b=some (.int k (a.tmod b)):=by simp[fP,h]
theorem MV(k:IntKind)(a b:Int):fP .eql k a k b=some (.bool (a==b)):=by simp[fP]
theorem MP(k:IntKind)(a b:Int):fP .neq k a k b=some (.bool (a != b)):=by simp[fP]
theorem MR(k:IntKind)(a b:Int):fP .lss k a k b=some (.bool (decide (a<b))):=by simp[fP]
theorem MS(k:IntKind)(a b:Int):fP .leq k a k b=some (.bool (decide (a<=b))):=by simp[fP]
theorem MT(k:IntKind)(a b:Int):fP .gtr k a k b=some (.bool (decide (a>b))):=by simp[fP]
theorem MU(k:IntKind)(a b:Int):fP .geq k a k b=some (.bool (decide (a>=b))):=by simp[fP]
theorem Gh.row{n0:Nat}{tm:List U}{σ:Sg}{K:Nat}{q q':List U}{e:TypeId}(hg:gt σ.h K=some (.row q e))(hk:okL q'=true)(hrel:∀x vs,x.σ=σ->eQ x->aQ x q vs->aQ x q' vs):Gh n0 tm σ tm ⟨ug σ.h K (.row q' e),σ.nx⟩:=fun F x tv hx hr hf he=>by
 subst hx
 let y:Cx:=⟨x.ρ,⟨ug x.σ.h K (.row q' e),x.σ.nx⟩,x.s⟩
 have hgt:∀k,gt y.σ.h k=if K=k then some (.row q' e)else gt x.σ.h k:=fun k=>by show gt (ug x.σ.h K (.row q' e)) k=_;rw[bL,hg];rfl
 have hmo:Mo x.σ.nx x y:=⟨fun k _ h2=>⟨h2,fun b hb=>by rw[hgt]at hb;by_cases ek:K=k;subst ek;simp only[if_true,zA]at hb;subst hb;exact⟨_,hg,zF _,fun _=>⟨rfl,fun l e sz st h=>by cases h⟩⟩;simp only[ek,if_false]at hb;exact⟨b,hb,zF _,fun _=>⟨rfl,fun l e sz st h=>⟨l,h⟩⟩⟩⟩,fun _ _ _ h=>h⟩;refine⟨y,fun m w hf=>bA.refl hf,rfl,⟨fun k b hb=>?_,fun k k' b b' i hb hb'=>?_,hr.bd⟩,fun i b J=>?_,hmo.ke.E he.bel he,fun u v hb hr=>hmo.ke u v (aA.bel u v hr) hr⟩;rw[hgt]at hb;by_cases ek:K=k;subst ek;simp only[if_true,zA]at hb;subst hb;obtain⟨h1,k1,i,l',e1,e2,e3⟩:=hr.ok K _ hg;have:=hrel x l' rfl hr e3;exact⟨h1,hk,i,l',e1,e2,hmo.ke.E this.bel this⟩;simp only[ek,if_false]at hb;obtain⟨h1,h2⟩:=hr.ok k b hb;exact⟨h1,h2.mono hmo rfl fun _ _ _ h=>h⟩;have old:∀k b,gt y.σ.h k=some b->∃c,gt x.σ.h k=some c:=fun k b hb=>by rw[hgt]at hb;by_cases ek:K=k;subst ek;exact⟨_,hg⟩;simp only[ek,if_false]at hb;exact⟨b,hb⟩
 obtain⟨c,hc⟩:=old k b hb;obtain⟨c',hc'⟩:=old k' b' hb';exact hr.inj k k' c c' i hc hc';obtain⟨h1,h2⟩:=hf i b J;refine⟨h1,fun k c hc=>?_⟩;rw[hgt]at hc;by_cases ek:K=k;subst ek;exact h2 _ _ hg;simp only[ek,if_false]at hc;exact h2 k c hc
theorem vP{n0:Nat}{tm:List U}{σ:Sg}(K i:Nat){q:List U}{e0:TypeId}(e:TypeId)(sz:Nat)(hsz:0<sz)(h0:n0<=σ.nx)(hg:gt σ.h K=some (.row q e0))(hi:nth q i=some .nils):Gh n0 tm σ tm ⟨ug (newU σ (.vec [] e sz 0)).h K (.row (q.set i (.vl σ.nx 0 0 0)) e0),σ.nx+1⟩:=fun F x tv hx hr hf he=>by
 subst hx;have hK:=(hr.ok K _ hg).1;obtain⟨_,k1,_⟩:=hr.ok K _ hg;have ho:=Pi hr e sz hsz;rw[eR]at hi
 let y:Cx:=⟨hJ x.ρ x.σ.nx none,newU x.σ (.vec [] e sz 0),x.s⟩
 have hgy:gt y.σ.h K=some (.row q e0):=by show gt ((x.σ.nx,_)::x.σ.h) K=_;rw[aK,if_neg (by omega),hg]
 let z:Cx:=⟨y.ρ,⟨ug y.σ.h K (.row (q.set i (.vl x.σ.nx 0 0 0)) e0),y.σ.nx⟩,y.s⟩
 have hgt:∀k,gt z.σ.h k=if K=k then some (.row (q.set i (.vl x.σ.nx 0 0 0)) e0)else gt y.σ.h k:=fun k=>by show gt (ug y.σ.h K _) k=_;rw[bL,hgy];rfl
 have hmo:Mo y.σ.nx y z:=⟨fun k _ h2=>⟨h2,fun b hb=>by rw[hgt]at hb;by_cases ek:K=k;subst ek;simp only[if_true,zA]at hb;subst hb;exact⟨_,hgy,zF _,fun _=>⟨rfl,fun l e sz st h=>by cases h⟩⟩;simp only[ek,if_false]at hb;exact⟨b,hb,zF _,fun _=>⟨rfl,fun l e sz st h=>⟨l,h⟩⟩⟩⟩,fun _ _ _ h=>h⟩;have hey:=ho.mo.ke.E he.bel he;have hfy:=ho.fr F hf;refine⟨z,fun m w hf=>bA.refl hf,rfl,⟨fun k b hb=>?_,fun k k' b b' j hb hb'=>?_,ho.h.bd⟩,fun j b J=>?_,hmo.ke.E hey.bel hey,fun u v hb hr=>hmo.ke u v (aA.bel u v (ho.mo.ke.le h0 u v hb hr)) (ho.mo.ke.le h0 u v hb hr)⟩;rw[hgt]at hb;by_cases ek:K=k;subst ek;simp only[if_true,zA]at hb;subst hb;obtain⟨h1,k1,j,l',e1,e2,e3⟩:=ho.h.ok K _ hgy;refine⟨h1,?_,j,l',e1,e2,?_⟩;refine(BC _).2 fun u hu=>?_;rcases List.mem_or_eq_of_mem_set hu with h |h
 exact(BC q).1 k1 u h;subst h;rfl;obtain⟨v,h3,h4⟩:=e3.get hi;simp only[aA]at h4;subst h4;have:=e3.set i (Qm (x:=x) (e:=e) (sz:=sz) (o:=none) (by simp));rw[Yt h3]at this;exact hmo.ke.E this.bel this;simp only[ek,if_false]at hb;obtain⟨h1,h2⟩:=ho.h.ok k b hb;exact⟨h1,h2.mono hmo rfl fun _ _ _ h=>h⟩;have old:∀k b,gt z.σ.h k=some b->∃c,gt y.σ.h k=some c:=fun k b hb=>by rw[hgt]at hb;by_cases ek:K=k;subst ek;exact⟨_,hgy⟩;simp only[ek,if_false]at hb;exact⟨b,hb⟩
 obtain⟨c,hc⟩:=old k b hb;obtain⟨c',hc'⟩:=old k' b' hb';exact ho.h.inj k k' c c' j hc hc';obtain⟨h1,h2⟩:=hfy j b J;refine⟨h1,fun k c hc=>?_⟩;rw[hgt]at hc;by_cases ek:K=k;subst ek;exact h2 _ _ hgy;simp only[ek,if_false]at hc;exact h2 k c hc
theorem nY(k:IntKind)(x:Int):(cI k x).length=1:=rfl
theorem CU(x:List UInt8):(cS x).length=1:=rfl
theorem PX{α:Type}(c:α->List U)(x:List α):(cL c x).length=1:=rfl
section
variable{T:Tb}{σ σ':Sg}{n:Nat}{l:List (Nat×U)}{u v w:U}
theorem Ut{a b:List UInt8}(h:a.length+b.length<=9223372036854775807):w7 .add ⟨⟨a⟩⟩ ⟨⟨b⟩⟩=some (.string ⟨(a++b).toArray⟩):=by
 have:¬ (((a.length+b.length:Nat):Int)>9223372036854775807):=by omega
 simp only[w7,this,if_false]
end
theorem aO.post{P:Program}{f:FuncId}{args:List U}{σ:Sg}{R R':U->Sg->Prop}(h:aO P f args σ R)(hg:∀u cC,R u cC->∃u' σ2,σ.nx<=σ2.nx/\Gh σ.nx [u] cC [u'] σ2/\R' u' σ2):aO P f args σ R':=fun F x vs m w cargs hx hh hfr he hfit hargs=>by
 refine(h F x vs m w cargs hx hh hfr he hfit hargs).mono ?_;rintro e w₁ ⟨y,aF,u,v,cv,h1,h2,h3,h4,h5,h6,h7,h8,h9⟩;obtain⟨u',σ2,g1,g2,g3⟩:=hg u y.σ h2;obtain⟨z,z1,z2,z3,z4,z5,z6⟩:=g2 F y [v] rfl h5 h6 (aQ.cons h7 (aQ.nil y));obtain⟨v0,SR,e0,z7,_⟩:=z5.inv;cases e0;have hadv2:=z1 aF w₁ h3.fits;exact⟨z,aF,u',v,cv,h1,z2 ▸ g3,h3.trans hadv2,h4.ext (aG.refl _ _) hadv2.nx,z3,z4,z7,by rw[hx]at h8 ⊢;exact h8.trans z6,by rw[hx,z2];exact g1⟩
mutual
theorem Nc(π:Nat->Nat):(u:U)->aJ 0 u->rU π u=u
 |.ptr k _ _,h=>by simp[aJ]at h
 |.sl k _ _ _,h=>by simp[aJ]at h
 |.vl k _ _ _,h=>by simp[aJ]at h
 |.map k,h=>by simp[aJ]at h
 |.iptr l,h=>by simp only[aJ]at h;simp[rU,BJ π l h]
 |.isl t l,h=>by simp only[aJ]at h;simp[rU,Om π l h]
 |.fn f a b,h=>by simp only[aJ]at h;simp[rU,BJ π a h.1,BJ π b h.2]
 |.agg l,h=>by simp only[aJ]at h;simp[rU,BJ π l h]
 |.tup l,h=>by simp only[aJ]at h;simp[rU,BJ π l h]
 |.junk,_=>rfl|.bool _,_=>rfl
 |.int _ _,_=>rfl|.str _,_=>rfl
 |.nilp,_=>rfl|.nils,_=>rfl
 |.nilm,_=>rfl|.nilf,_=>rfl
 |.nili,_=>rfl
theorem BJ(π:Nat->Nat):(l:List U)->aE 0 l->dC π l=l
 |[],_=>rfl|u::l,h=>by simp only[aE]at h;simp[dC,Nc π u h.1,BJ π l h.2]
theorem Om(π:Nat->Nat):(l:List (List U))->fW 0 l->mL π l=l
 |[],_=>rfl|c::l,h=>by simp only[fW]at h;simp[mL,BJ π c h.1,Om π l h.2]
end
section
variable{P:Program}{T:Tb}{ops r:List Oper}{o:Oper}{n:Nat}{l:List (Nat×U)}{σ:Sg}{K:List U->Sg->Prop}
theorem i7{C:PG}{f:FuncId}{args:List U}{R:U->Sg->Prop}(hw:bO ops (fr n l) o=some true)(hc:fQ T (fr n l) o.op=some (f,args))(hev:aO C.prog f args σ R){d:Tmp}(he:o.dst=some d)(hd:Nat.blt d n=true)(hk:∀u σ',R u σ'->RU C T ops r (fr n ((d,u)::l)) σ' K):RU C T ops (o::r) (fr n l) σ K :=
 RU.call hw hc hev (fun u σ' h=>by rw[he,mP (d:=some d) u hd];exact hk u σ' h)
end
section
variable{Q:Exit->List U->Sg->Prop}{K:List U->Sg->Prop}{tm:List U}{σ:Sg}{i j n0:Nat}{E:List U->Sg->Prop}
theorem q1(h:K tm σ):tE K Q .normal tm σ:=h
theorem q2(h:Q (.exit i) tm σ):tE K Q (.exit i) tm σ:=h
theorem q3(h:Q .ret tm σ):tE K Q .ret tm σ:=h
theorem q4(h:Q .normal tm σ):pS i Q .normal tm σ:=h
theorem q5(h:Q .ret tm σ):pS i Q .ret tm σ:=h
theorem q6(h:Q .normal tm σ):pS i Q (.exit i) tm σ:=YT h
theorem q7(hij:¬ j=i)(h:Q (.exit j) tm σ):pS i Q (.exit j) tm σ:=YS hij h
theorem q8(h:∃tm' σ',E tm' σ'/\n0<=σ'.nx/\Gh n0 tm σ tm' σ'):FA n0 E Q .normal tm σ:=h
theorem q9(h:Q .ret tm σ):FA n0 E Q .ret tm σ:=h
theorem q0(h:Q (.exit i) tm σ):FA n0 E Q (.exit i) tm σ:=h
end
theorem QZ(p:Nat->Bool):∀(h:List (Nat×B))(k:Nat),gt (h.filter fun x=>p x.1) k=if p k then gt h k else none
 |[],k=>by simp[gt]
 |(j,b)::h,k=>by
  rw[List.filter_cons];cases hp:p j with
  |true=>simp only[if_true,aK,QZ p h k];by_cases e:j=k;subst e;simp[hp];simp[e]|false=>simp only[Bool.false_eq_true,if_false,QZ p h k,aK];by_cases e:j=k;subst e;simp[hp];simp[e]
theorem Gh.only{n0:Nat}{tm:List U}{σ:Sg}(p:Nat->Bool):Gh n0 tm σ tm ⟨σ.h.filter fun x=>p x.1,σ.nx⟩:=fun F x tv hx hr hf he=>by
 subst hx;have mo:∀n,Mo n x ⟨x.ρ,⟨x.σ.h.filter fun y=>p y.1,x.σ.nx⟩,x.s⟩:=fun n=>⟨fun k _ h2=>⟨h2,fun b' hb'=>by simp only[QZ]at hb';split at hb';exact⟨b',hb',zF _,fun _=>⟨rfl,fun l e sz st h=>⟨l,h⟩⟩⟩;cases hb'⟩,fun _ _ _ h=>h⟩;refine⟨⟨x.ρ,⟨x.σ.h.filter fun y=>p y.1,x.σ.nx⟩,x.s⟩,fun m w hf=>bA.refl hf,rfl,⟨?_,?_,hr.bd⟩,?_,he.mono (mo _) he.bel,fun u v hb hv=>aA.mono (mo _) u v (aA.bel u v hv) hv⟩;intro k b hb;simp only[QZ]at hb;split at hb;obtain⟨h1,h2⟩:=hr.ok k b hb;exact⟨h1,h2.mono (mo _) rfl (fun i c _ h=>h)⟩;cases hb;intro k k' b b' i hb hb' h1 h2;simp only[QZ]at hb hb';split at hb;split at hb';exact hr.inj k k' b b' i hb hb' h1 h2;cases hb';cases hb;intro i b J;obtain⟨h1,h2⟩:=hf i b J;refine⟨h1,fun k c hc=>?_⟩;simp only[QZ]at hc;split at hc;exact h2 k c hc;cases hc
def jM{α:Type}(l:List α)(off n:Nat)(i:Int):Option α:=if 0<=i/\i<(n:Int)then l[off+i.toNat]? else none
variable{α:Type}
variable{off:Nat}
variable{i:Int}
variable{x:α}
theorem FU{l:List α}{n:Nat}(h:jM l off n i=some x):0<=i/\i<(n:Int)/\l[off+i.toNat]? = some x:=by
 unfold jM at h;split at h;rename_i hi;exact⟨hi.1,hi.2,h⟩;cases h
section
variable{α:Type}{c:α->List U}{sz:Nat}(hc:∀x,(c x).length=sz)
include hc
theorem Nv{xs:List α}{j:Nat}{x:α}(h:xs[j]? = some x):fI (xs.map c).flatten (j*sz) sz=some (c x):=by
 have hj:=(zG.1 h).1;unfold fI;rw[tO hc,Ek hc];have e:xs.drop j=x::xs.drop (j+1):=by rw[List.drop_eq_getElem_cons hj];congr;exact(zG.1 h).2
 rw[e,if_pos (by rw[<-Nat.succ_mul];exact Nat.mul_le_mul_right _ hj)];simp only[zQ,List.flatten_cons];have:=hc x;rw[<-this,List.take_left'];rfl
theorem Ov{xs:List α}{j:Nat}(h:j<xs.length)(x:α):jW (xs.map c).flatten (j*sz) (c x)=some ((xs.set j x).map c).flatten:=by
 unfold jW;rw[tO hc,hc,if_pos (by rw[<-Nat.succ_mul];exact Nat.mul_le_mul_right _ h),<-Nat.succ_mul,Ek hc,zr hc,List.set_eq_take_append_cons_drop,if_pos h];simp
end
section
variable{T:Tb}{σ σ':Sg}{n:Nat}{l:List (Nat×U)}{u v w:U}
variable{t:TypeId}
variable{e:TypeId}
variable{e':TypeId}
variable{sz:Nat}
variable{K:Nat}
variable{m:Nat}
variable{xs:List α}
theorem GU(c:α->List U){st:Nat}{k:IntKind}(hd:T.und t=some (.slice e))(hs:bJ T e=some sz)(hz:0<sz)(hc:∀x,(c x).length=sz)(hv:iU σ K st=some ((xs.map c).flatten,e',sz))(hx:jM xs off m i=some x):sE T σ t (.vl K st off m) (.int k i)=some (.ptr K st (off*sz+i.toNat*sz)):=by
 obtain⟨h1,h2,h3⟩:=FU hx;have hne:¬ (xs.map c).flatten=[]:=fun h=>by have:=congrArg List.length h;rw[tO hc]at this;have h4:=(zG.1 h3).1;have:=Nat.mul_pos (show 0<xs.length by omega) hz;simp at*;omega
 have hb:Nat.beq sz sz=true:=by simp[beq_eq]
 simp only[sE,hd,hs,hv,hb,zC,h1,h2,ne_eq,hne,not_false_eq_true,and_self,if_true]
theorem T'{q:List U}{j:Nat}{u:U}(h:fI q j 1=some [u]):nth q j=some u:=by
 unfold fI at h;split at h;rename_i hj;simp only[zA]at h;rw[eR];have:((q.drop j).take 1)[0]? = some u:=by rw[h];rfl
 simpa using this;cases h
theorem TQ(c:α->List U){st:Nat}{y:α}{o z:Operand}{cs:List U}{h':List (Nat×B)}(hs:bJ T t=some sz)(hc:∀x,(c x).length=sz)(ho:aY n l o=some (.ptr K st (off*sz+i.toNat*sz)))(hz:aY n l z=some v)(hcs:o0 v=some cs)(hk:okL cs=true)(hl:Nat.beq cs.length sz=true)(hy:kJ cs=c y)(hv:gt σ.h K=some (.vec (xs.map c).flatten e' sz st))(hx:jM xs off m i=some x)(hσ:ug σ.h K (.vec ((xs.set (off+i.toNat) y).map c).flatten e' sz st)=h'):aV T σ (fr n l) (.store t o z)=some (.junk,⟨h',σ.nx⟩):=by
 subst hσ;have hb:Nat.beq st st=true:=by simp
 have hj:=(zG.1 (FU hx).2.2).1;have hp:=Ov hc hj y;rw[Nat.add_mul]at hp;exact AT rfl rfl (by simp only[jN,cB ho,cB hz,KH,hs,hcs,hl,hk,zC,cellsOf,hv,hb,uO,hy,hp,B3])
theorem PY(h:aC xs i=some x):jM xs 0 xs.length i=some x:=by
 obtain⟨h1,h2,h3⟩:=QO h;unfold jM;rw[if_pos ⟨h1,h2⟩,Nat.zero_add];exact h3
theorem U3(c:α->List U){st a h q:Nat}{lo hi:Option Value}(hd:T.und t=some (.slice e))(hs:bJ T e=some sz)(hc:∀x,(c x).length=sz)(hv:iU σ K st=some ((xs.map c).flatten,e',sz))(hm:off+m<=xs.length)(hb:dN m m lo hi none=some (a,h,q)):FG T σ t (.vl K st off m) lo hi none=some (.vl K st (off+a) (h-a)):=by
 have b:Nat.beq sz sz=true:=by simp[beq_eq]
 have hl:(off+m)*sz<=(xs.map c).flatten.length:=by rw[tO hc];exact Nat.mul_le_mul_right _ hm
 simp only[FG,hd,hs,hv,b,zC,hb,hl,if_true]
theorem MC{st:Nat}{q:List U}(hd:T.und t=some (.slice e))(h:gt σ.h K=some (.vec q e' sz st)):oI T σ t (.vl K st off m)=some (.int .i64 m):=by
 have b:Nat.beq st st=true:=by simp[beq_eq]
 simp only[oI,hd,live,h,B.st,b,zC]
theorem Cg(c:α->List U){st:Nat}(hc:∀x,(c x).length=sz)(hv:iU σ K st=some ((xs.map c).flatten,e,sz))(hm:off+m<=xs.length):m7 σ sz (.vl K st off m)=some (((xs.drop off).take m).length,(((xs.drop off).take m).map c).flatten):=by
 have b:Nat.beq sz sz=true:=by simp[beq_eq]
 have hl:off*sz+m*sz<=(xs.map c).flatten.length:=by rw[tO hc,<-Nat.add_mul];exact Nat.mul_le_mul_right _ hm
 have e1:((xs.drop off).take m).length=m:=by simp;omega
 simp only[m7,hv,b,zC,fI,hl,if_true,Ek hc,zr hc,e1]
end
class SL(a b:Nat):Prop where
 h:a<b
instance{b:Nat}:SL 0 (b+1):=⟨Nat.succ_pos _⟩
instance{a b:Nat}[q:SL a b]:SL (a+1) (b+1):=⟨Nat.succ_lt_succ q.h⟩
class BF{α:Type}(c:α->List U):Prop where
 h:∀n x,aE n (c x)
instance(k:IntKind):BF (cI k):=⟨fun n x=>Cw n k x⟩
instance:BF cS:=⟨Wh⟩
instance{α:Type}(c:α->List U)[q:BF c]:BF (cL c):=⟨fun n x=>OS n (q.h n) x⟩
class BU(n:Nat)(u:U):Prop where
 h:aJ n u
class jC(n:Nat)(l:List U):Prop where
 h:aE n l
instance(n:Nat):jC n []:=⟨by simp[aE]⟩
instance(n:Nat)(u:U)(l:List U)[a:BU n u][b:jC n l]:jC n (u::l):=⟨by simp only[aE];exact⟨a.h,b.h⟩⟩
instance{α:Type}(n:Nat)(c:α->List U)(l:List α)[q:BF c]:jC n (l.map c).flatten:=⟨QT n (q.h n) l⟩
instance(n:Nat)(b:Bool):BU n (.bool b):=⟨by simp[aJ]⟩
instance(n:Nat)(k:IntKind)(z:Int):BU n (.int k z):=⟨by simp[aJ]⟩
instance(n:Nat)(s:List UInt8):BU n (.str s):=⟨by simp[aJ]⟩
instance(n:Nat):BU n .nils:=⟨by simp[aJ]⟩
instance(n k st off:Nat)[q:SL k n]:BU n (.ptr k st off):=⟨by simp only[aJ];exact q.h⟩
instance(n k off m c:Nat)[q:SL k n]:BU n (.sl k off m c):=⟨by simp only[aJ];exact q.h⟩
instance(n k st off m:Nat)[q:SL k n]:BU n (.vl k st off m):=⟨by simp only[aJ];exact q.h⟩
instance(n:Nat)(l:List U)[q:jC n l]:BU n (.iptr l):=⟨by simp only[aJ];exact q.h⟩
instance(n:Nat)(l:List U)[q:jC n l]:BU n (.agg l):=⟨by simp only[aJ];exact q.h⟩
instance(n:Nat)(l:List U)[q:jC n l]:BU n (.tup l):=⟨by simp only[aJ];exact q.h⟩
instance(n:Nat)(f:Fn)(a b:List U)[p:jC n a][q:jC n b]:BU n (.fn f a b):=⟨by simp only[aJ];exact⟨p.h,q.h⟩⟩
instance{α:Type}(n:Nat)(t:Bool)(c:α->List U)(l:List α)[q:BF c]:BU n (.isl t (l.map c)):=⟨by simp only[aJ];exact o5 c (q.h n) l⟩
instance(n:Nat)(t:Bool):BU n (.isl t []):=⟨by simp[aJ,fW]⟩
class BS(n:Nat)(l:List (Nat×U)):Prop where
 h:BelS n l
instance(n:Nat):BS n []:=⟨by simp[BelS]⟩
instance(n i:Nat)(u:U)(l:List (Nat×U))[a:BU n u][b:BS n l]:BS n ((i,u)::l):=⟨by simp only[BelS];exact⟨a.h,b.h⟩⟩
class yc{α:Type}(f:α->U):Prop where
 h:∀n x,aJ n (f x)
class BB(n:Nat)(b:B):Prop where
 h:BelB n b
instance(n:Nat)(l:List U)(e:TypeId)[q:jC n l]:BB n (.row l e):=⟨by simp only[BelB];exact q.h⟩
instance(n:Nat)(l:List U)(e:TypeId)(sz st:Nat)[q:jC n l]:BB n (.vec l e sz st):=⟨by simp only[BelB];exact q.h⟩
class BH(n:Nat)(h:List (Nat×B)):Prop where
 h:uW n h
instance(n:Nat):BH n []:=⟨by simp[uW]⟩
instance(n k:Nat)(b:B)(h:List (Nat×B))[p:BB n b][q:BH n h]:BH n ((k,b)::h):=⟨by simp only[uW];exact⟨p.h,q.h⟩⟩
variable{n0:Nat}
variable{σ:Sg}
theorem Gh.toC{n1 n:Nat}{l l':List (Nat×U)}{h':List (Nat×B)}(ht:AR l l')(hs:Vx.cut n1 σ.h=h')(h1:n0<=n1)(h2:n1<=σ.nx)[hb:BS n1 l'][hh:BH n1 h']:Gh n0 (fr n l) σ (fr n l') ⟨h',n1⟩:=Gh.toS ht (by rw[hs]) h1 h2 hb.h hh.h
variable{tm:List U}
theorem vN(u:U)(ht:tm=[u])[q:BU 0 u]:Gh 0 tm σ [u] ⟨[],0⟩:=by
 subst ht;refine Gh.to (n1:=0) [] rfl ?_ (zF _) (Nat.zero_le _) (by simp only[aE];exact⟨q.h,trivial⟩) (by simp[uW]);have:∀h:List (Nat×B),Vx.cut 0 h=[]:=by
  intro h;induction h with
  |nil=>rfl|cons x h ih=>obtain⟨k,b⟩:=x;simp only[Vx.cut,ih];rfl
 rw[this]
variable{P:Program}
variable{f:FuncId}
theorem aO.pure1C{args:List U}{u:U}(h:aO P f args ⟨[],0⟩ (fun u' _=>u'=u/\aJ 0 u'))[q:jC 0 args](σ:Sg):aO P f args σ (fun u' σ'=>u'=u/\σ'=σ):=aO.pure1 h q.h σ
theorem vO{args args':List U}{u:U}(h:jU args args')(hev:∀s,aO P f args' s (fun u' σ'=>u'=u/\σ'=s))(σ:Sg):aO P f args σ (fun u' σ'=>u'=u/\σ'=σ):=aO.ghost (Gh.wk h) (zF _) (hev σ)
class Stp(A:Prop)(B:outParam Prop):Prop where
 h:B->A
section
variable{Q:Exit->List U->Sg->Prop}{K:List U->Sg->Prop}{tm:List U}{σ:Sg}{i j n0:Nat}{E:List U->Sg->Prop}
instance:Stp (tE K Q .normal tm σ) (K tm σ):=⟨q1⟩
instance:Stp (tE K Q (.exit i) tm σ) (Q (.exit i) tm σ):=⟨q2⟩
instance:Stp (tE K Q .ret tm σ) (Q .ret tm σ):=⟨q3⟩
instance:Stp (pS i Q .normal tm σ) (Q .normal tm σ):=⟨q4⟩
instance:Stp (pS i Q .ret tm σ) (Q .ret tm σ):=⟨q5⟩
instance:Stp (pS i Q (.exit i) tm σ) (Q .normal tm σ):=⟨q6⟩
instance:Stp (FA n0 E Q .normal tm σ) (∃tm' σ',E tm' σ'/\n0<=σ'.nx/\Gh n0 tm σ tm' σ'):=⟨q8⟩
instance:Stp (FA n0 E Q .ret tm σ) (Q .ret tm σ):=⟨q9⟩
end
variable{C:PG}
theorem sq{Q:Exit->List U->Sg->Prop}{p q:Code}(h:WPU C n0 p tm σ (tE (fun tm σ=>WPU C n0 q tm σ Q) Q)):WPU C n0 (.seq p q) tm σ Q:=WPU.seq h
section
variable{P:Program}{T:Tb}{ops r:List Oper}{n:Nat}{l:List (Nat×U)}{σ:Sg}{K:List U->Sg->Prop}{u:U}
theorem RS.mv{o:Oper}{x:Operand}(hw:bO ops (fr n l) o=some true)(ho:o.op=.move x)(hx:aY n l x=some u){d:Tmp}(he:o.dst=some d)(hk:RU C T ops r (fr n ((d,u)::l)) σ K)(hd:Nat.blt d n=true:=by rfl):RU C T ops (o::r) (fr n l) σ K:=RS.op hw (by rw[ho];exact lJ hx) he hd hk
theorem RS.as{o:Oper}{x:Operand}(hw:bO ops (fr n l) o=some true)(ho:o.op=.assign x)(hx:aY n l x=some u){d:Tmp}(he:o.dst=some d)(hk:RU C T ops r (fr n ((d,u)::l)) σ K)(hd:Nat.blt d n=true:=by rfl):RU C T ops (o::r) (fr n l) σ K:=RS.op hw (by rw[ho];exact zg hx) he hd hk
end
section
variable{P:Program}{T:Tb}{ops r:List Oper}{o:Oper}{n:Nat}{l:List (Nat×U)}{σ:Sg}{acc:List RK}{K:List RK->List U->Sg->Prop}{u:U}
theorem RD.mv{x:Operand}(hw:bO ops (fr n l) o=some true)(ho:o.op=.move x)(hx:aY n l x=some u){d:Tmp}(he:o.dst=some d)(hk:RH P T ops r (fr n ((d,u)::l)) σ ((1,⟨fr n l,o,u,false,false,σ,σ⟩)::acc) K)(hd:Nat.blt d n=true:=by rfl):RH P T ops (o::r) (fr n l) σ acc K:=RD.look hw (by rw[ho];exact lJ hx) he hd hk
end
class Jq(a b:Nat):Prop where
 h:¬ a=b
instance{b:Nat}:Jq 0 (b+1):=⟨by omega⟩
instance{a b:Nat}[q:Jq a b]:Jq (a+1) (b+1):=⟨by have:=q.h;omega⟩
instance{Q:Exit->List U->Sg->Prop}{tm:List U}{σ:Sg}{i j:Nat}[h:Jq j i]:Stp (pS i Q (.exit j) tm σ) (Q (.exit j) tm σ):=⟨q7 h.h⟩
theorem gq{A B:Prop}[s:Stp A B](h:B):A:=s.h h
def tT(T:Tb):List Field->Option (List (Nat×Nat))
 |[]=>some []|f::fs=>match bJ T f.type,tT T fs with
  |some n,some l=>some ((f.offset,n)::l)|_,_=>none
theorem Xo{T:Tb}:∀{fs:List Field}{pl:List (Nat×Nat)},tT T fs=some pl->wM T fs=true/\∀i,BG T fs i=nth pl i
 |[],pl,h=>by simp[tT]at h;subst h;exact⟨rfl,fun i=>rfl⟩
 |f::fs,pl,h=>by
  simp only[tT]at h;rcases h1:bJ T f.type with _|n;simp[h1]at h;rcases h2:tT T fs with _|l;simp[h1,h2]at h;simp only[h1,h2,zA]at h;subst h;obtain⟨g1,g2⟩:=Xo h2;refine⟨by simp[wM,h1,g1],fun i=>?_⟩;cases i with
  |zero=>simp[BG,nth,h1]|succ i=>exact g2 i
structure Ur(T:Tb)(t:TypeId)(zu:List U)(pl:List (Nat×Nat)):Prop where
 bd:∀{qs:List (Nat×U)}{cs:List U},lH (nth pl) zu qs=some cs->okL cs=true->Q6 T t qs=some (.agg cs)
variable{t:TypeId}
variable{b:Nat}
variable{z:Value}
variable{zu:List U}
theorem pD{T:Tb}{fs:Array Field}{a:Nat}{pl:List (Nat×Nat)}(hd:T.und t=some (.struct fs))(hi:T.inf t=some (a,b,z))(hz:jF z.cells.toList=some zu)(hp:tT T fs.toList=some pl):Ur T t zu pl:=⟨fun{qs cs} hf hk=>by
 obtain⟨g1,g2⟩:=Xo hp;have:BG T fs.toList=nth pl:=funext g2;simp only[Q6,hi,hz,hd,g1,zC,this,hf,hk]⟩
section
variable{T:Tb}{σ σ':Sg}{n:Nat}{l:List (Nat×U)}{u v w:U}
variable{ps:Array (Nat×Operand)}
variable{qs:List (Nat×U)}
variable{cs:List U}
theorem Vg{pl:List (Nat×Nat)}(h:Ur T t zu pl)(he:rV n l ps.toList=some qs)(hf:lH (nth pl) zu qs=some cs)(hk:okL cs=true):aV T σ (fr n l) (.build t ps)=some (.agg cs,σ):=VE he (h.bd hf hk)
variable{e:TypeId}
variable{sz:Nat}
theorem wN{k:Nat}(hd:T.und t=some (.slice e))(hi:T.inf e=some (sz,b,z))(h:rV n l ps.toList=some qs)(h1:Nat.ble (k*sz) 16777216=true)(h2:Nat.ble k 16777216=true)(h3:Nat.beq z.cells.toList.length sz=true)(hz:jF z.cells.toList=some zu)(hf:lH (fun i=>some (i*sz,sz)) (lX zu k) qs=some cs)(hk:okL cs=true):aV T σ (fr n l) (.buildSlice t k ps)=some (.sl σ.nx 0 k k,newU σ (.row cs e)):=Y2 h (by simp only[VV,hd,hi,h1,h2,h3,zC,hz,hf,hk])
theorem mO.bs{k:Nat}{rs:List (List U)}(hd:T.und t=some (.slice e))(hi:T.inf e=some (sz,b,z))(h:rV n l ps.toList=some qs)(h1:Nat.ble (k*sz) 16777216=true)(h2:Nat.ble k 16777216=true)(h3:Nat.beq z.cells.toList.length sz=true)(hz:jF z.cells.toList=some zu)(hf:lH (fun i=>some (i*sz,sz)) (lX zu k) qs=some cs)(hk:okL cs=true)(hl:Nat.ble (k*sz) cs.length=true)(hr:bC sz k cs=rs)[hb:jC 0 cs]:mO P T (fr n l) (.buildSlice t k ps) (.isl false rs):=
 .inr ⟨k,sz,cs,e,fun σ=>wN hd hi h h1 h2 h3 hz hf hk,zY hl,fun m _=>aE.le (Nat.zero_le _) _ hb.h,by rw[hr]⟩
variable{a:Int}
variable{k':IntKind}
theorem MN(k:IntKind){b:Int}(h:¬ b<0):fP .shr k a k' b=some (.int k (a.fdiv (2^(min b.toNat k.bits)))):=by simp[fP,h]
theorem MO(k:IntKind){b:Int}(h:¬ b<0):fP .shl k a k' b=some (.int k (k.wrap (a*2^(min b.toNat k.bits)))):=by simp[fP,h]
theorem Mb(c:α->List U)(z:α){x y:Operand}{k:IntKind}{by_:Nat}{zv:Value}(hx:aY n l x=some (.int k a))(hy:aY n l y=some (.int k' a))(hd:T.und t=some (.slice e))(hi:T.inf e=some (sz,by_,zv))(hz:jF zv.cells.toList=some zu)(hk:okL zu=true)(hzw:kJ zu=c z)(hl:Nat.beq zv.cells.toList.length sz=true)(hr:0<=a/\by_*a.toNat<=281474976710656/\a<=281474976710656):aV T σ (fr n l) (.makeSlice t x y)=some (.sl σ.nx 0 a.toNat a.toNat,newU σ (.row ((List.replicate a.toNat z).map c).flatten e)):=by
 have SF:lX (c z) a.toNat=((List.replicate a.toNat z).map c).flatten:=by simp[lX]
 refine Y1 hx hy ?_;simp only[U5,hd,hi,hz,hk,hl,zC,hr.1,hr.2.1,hr.2.2,Int.le_refl,and_self,if_true,hzw,SF]
variable{K:Nat}
variable{m:Nat}
variable{xs:List α}
theorem wI{q:Nat}{k:IntKind}(hd:T.und t=some (.slice e))(hs:bJ T e=some sz)(hv:live σ K 0=true)(hx:jM xs 0 m i=some x):sE T σ t (.sl K 0 m q) (.int k i)=some (.ptr K 0 (0*sz+i.toNat*sz)):=by
 obtain⟨h1,h2,_⟩:=FU hx;simp only[sE,hd,hs,hv,zC,h1,h2,and_self,if_true,Nat.zero_mul]
theorem FK(c:α->List U){e':TypeId}{d:TypeDesc}{o:Operand}(f:α->U)(hd:T.und t=some d)(ha:kQ d=false)(hc:∀x,c x=[f x])(ho:aY n l o=some (.ptr K 0 (0*1+i.toNat*1)))(hv:gt σ.h K=some (.row (xs.map c).flatten e'))(hx:jM xs 0 m i=some x):aV T σ (fr n l) (.load t o)=some (f x,σ):=by
 refine ER rfl ?_;have hb:Nat.beq 0 0=true:=rfl;have hg:=Nv (c:=c) (sz:=1) (fun x=>by rw[hc];rfl) (FU hx).2.2;rw[hc,Nat.add_mul]at hg;simp only[kN,cB ho,cellsOf,hv,hb,zC,uY,hd,ha,zD,T' hg]
theorem Jz(c:α->List U){e':TypeId}{y:α}{o z:Operand}{h':List (Nat×B)}(hs:bJ T t=some sz)(hc:∀x,(c x).length=sz)(ho:aY n l o=some (.ptr K 0 (0*sz+i.toNat*sz)))(hz:aY n l z=some v)(hcs:o0 v=some cs)(hk:okL cs=true)(hy:cs=c y)(hv:gt σ.h K=some (.row (xs.map c).flatten e'))(hx:jM xs 0 m i=some x)(hσ:ug σ.h K (.row ((xs.set i.toNat y).map c).flatten e')=h'):aV T σ (fr n l) (.store t o z)=some (.junk,⟨h',σ.nx⟩):=by
 subst hy;subst hσ;have hb:Nat.beq 0 0=true:=rfl;have hb2:Nat.beq (c y).length sz=true:=by simp[hc]
 have hj:=(zG.1 (FU hx).2.2).1;have hp:=Ov hc hj y;rw[Nat.add_mul,Nat.zero_add]at hp;exact AT rfl rfl (by simp only[jN,cB ho,cB hz,KH,hs,hcs,hb2,hk,zC,cellsOf,hv,hb,uO,hp,B3])
theorem Vo{q:Nat}(hd:T.und t=some (.slice e))(h:live σ K 0=true):oI T σ t (.sl K off m q)=some (.int .i64 m):=by
 simp only[oI,hd,h,zC]
theorem Cc{c:α->List U}(hc:∀x,(c x).length=sz)(h:m=xs.length)(K:Nat)(e:TypeId):fz K (.row (xs.map c).flatten e) sz (.sl K 0 m m)=.isl false (xs.map c):=by
 subst h;have hl:0+xs.length*sz<=(xs.map c).flatten.length:=by rw[tO hc];omega
 have hk:Nat.beq K K=true:=by simp
 simp only[fz,hk,zC,hl,if_true,List.drop_zero,xp hc]
end
theorem aO.own1(c:α->List U){ys:List α}{e:TypeId}{sz:Nat}{a7:List U}[hc:BF c][ha:jC 0 a7]{k:Nat}
  (h:aO P f a7 ⟨[],0⟩ (fun u σ'=>∃t',u=.vl k t' 0 ys.length/\σ'=⟨[(k,.vec (ys.map c).flatten e sz t')],k+1⟩))
  (σ:Sg) (K:Nat) (hK:σ.nx+k=K):
  aO P f a7 σ (fun u σ'=>∃t',u=.vl K t' 0 ys.length/\σ'=⟨(K,.vec (ys.map c).flatten e sz t')::σ.h,K+1⟩):=by
 subst hK;have hfl:∀l:List α,aE 0 (l.map c).flatten:=fun l=>QT 0 (hc.h 0) l;have h1:=aO.frame [] h σ (by simp) (by simp) ha.h (by intro k b hb;simp[gt]at hb);rw[BJ _ _ ha.h]at h1;refine aO.post h1 ?_;rintro u cC ⟨u0,jD,⟨t',rfl,rfl⟩,_,rfl,rfl⟩;refine⟨.vl (σ.nx+k) t' 0 ys.length,⟨(σ.nx+k,.vec (ys.map c).flatten e sz t')::σ.h,σ.nx+k+1⟩,by simp;omega,?_,t',rfl,rfl⟩;have hs:ZJ [] σ ⟨[(k,.vec (ys.map c).flatten e sz t')],k+1⟩=⟨(σ.nx+k,.vec (ys.map c).flatten e sz t')::wK [] σ.h,σ.nx+k+1⟩:=by simp[ZJ,pJ,nm,rB,BJ _ _ (hfl ys)];omega
 rw[hs];have:=Gh.same (n0:=σ.nx) (tm:=[rU (nm [] σ.nx) (.vl k t' 0 ys.length)]) (σ:=⟨(σ.nx+k,.vec (ys.map c).flatten e sz t')::wK [] σ.h,σ.nx+k+1⟩) ((σ.nx+k,.vec (ys.map c).flatten e sz t')::σ.h) (fun j=>by rw[aK,aK,VL];by_cases hk:σ.nx+k=j<;>simp[hk]);exact this
theorem Gh.rowW{K:Nat}{q q':List U}{e:TypeId}(hg:gt σ.h K=some (.row q e))(hk:okL q'=true)(h:jU q q'):Gh n0 tm σ tm ⟨ug σ.h K (.row q' e),σ.nx⟩:=Gh.row hg hk fun x vs _ _ he=>⟨h.rel he.1,by rw[h.len];exact he.2⟩
end Go.Vx
namespace Go.Vx
open Go Go.Rx
structure Uo(K V:Type) where
 es:List (K×V×Nat)
 cl:Nat
section
variable{K V:Type}(kU:K->U)(vU:V->U)
def mE(e:K×V×Nat):ME:=⟨kU e.1,vU e.2.1,e.2.2⟩
structure Bf(T:Tb)(kt:TypeId)(eq:K->K->Bool)(kV:K->Value):Prop where
 v:∀k,toV (kU k)=some (kV k)
 cmp:∀a b,eqv T 50 kt (kV a) (kV b)=some (eq a b)
 key:∀k,jX T 50 kt (kV k)=true
 pl:∀k,plain (kV k)=true
 same:∀a b,eq a b=true->rO 50 (kV b) (kV a)=true
variable{kU vU}{T:Tb}{kt:TypeId}{eq:K->K->Bool}{kV:K->Value}(hk:Bf kU T kt eq kV)
include hk
variable{σ:Sg}{n:Nat}{l:List (Nat×U)}{r:Nat}{m:Uo K V}{t et:TypeId}(hd:T.und t=some (.map kt et))(hg:gt σ.h r=some (.map (m.es.map (mE kU vU)) m.cl))
include hd hg
end
theorem Xq{T:Tb}{σ:Sg}{n:Nat}{l:List (Nat×U)}{t:TypeId}:aV T σ (fr n l) (.makeMap t none)=some (.map σ.nx,newU σ (.map [] 0)):=AT rfl rfl rfl
def Wq:List Nat->Nat->Nat
 |[],_=>0|a::_,0=>a
 |_::l,i+1=>Wq l i
def Is:List Nat->Nat->Bool
 |[],_=>true|a::l,nx=>cond (ES l a) false (cond (Nat.blt a nx) (Is l nx) false)
theorem Xs:∀{l:List Nat}{nx:Nat},Is l nx=true->l.Nodup/\∀k∈l,k<nx
 |[],nx,_=>⟨List.nodup_nil,fun k h=>by cases h⟩|a::l,nx,h=>by
  simp only[Is]at h;cases h1:ES l a with
  |true=>rw[h1]at h;cases h|false=>rw[h1,zD]at h;rcases h2:Nat.blt a nx with _|_;rw[h2]at h;cases h;rw[h2,zC]at h;obtain⟨q1,q2⟩:=Xs h;refine⟨List.nodup_cons.2 ⟨fun hm=>?_,q1⟩,fun k hk=>?_⟩;rw[(Dy l a).2 hm]at h1;cases h1;rcases zI.1 hk with rfl |hk;exact zY h2;exact q2 k hk
def Cn(N:Nat):List (Nat×B)->Bool
 |[]=>true|(k,_)::h=>cond (Nat.blt k N) (Cn N h) false
def AA(ns:List Nat)(nx:Nat)(h:List (Nat×B)):List (Nat×B)->Prop
 |[]=>True|(k,b)::r=>gt h (nm ns nx k)=some (rB (nm ns nx) b)/\AA ns nx h r
theorem Uu{ns:List Nat}{nx N:Nat}{h:List (Nat×B)}:∀{h0:List (Nat×B)},AA ns nx h h0->Cn N h0=true->uW N h0->∀k b,gt h0 k=some b->k<N/\BelB N b/\gt h (nm ns nx k)=some (rB (nm ns nx) b)
 |[],_,_,_,k,b,hg=>by cases hg
 |(j,c)::h0,hh,hk,hb,k,b,hg=>by simp only[AA]at hh;simp only[Cn]at hk;rcases h2:Nat.blt j N with _|_;rw[h2]at hk;cases hk;rw[h2,zC]at hk;simp only[uW]at hb;simp only[gt,beq_eq]at hg;by_cases e:j=k;subst e;simp only[yC,zC,zA]at hg;subst hg;exact⟨zY h2,hb.1,hh.1⟩;simp only[e,yB,zD]at hg;exact Uu hh.2 hk hb.2 k b hg
theorem PT(π:Nat->Nat)(l:List U)[q:jC 0 l]:dC π l=l:=BJ π l q.h
theorem FO{α:Type}(π:Nat->Nat)(c:α->List U)(l:List α)[q:BF c]:mL π (l.map c)=l.map c:=Om π _ (o5 c (q.h 0) l)
theorem Ch{K V:Type}(π:Nat->Nat)(kU:K->U)(vU:V->U)(es:List (K×V×Nat))[p:yc kU][q:yc vU]:(es.map (mE kU vU)).map (rM π)=es.map (mE kU vU):=by
 rw[List.map_map];refine List.map_congr_left fun e _=>?_;simp only[Function.comp,mE,rM,Nc π _ (p.h 0 _),Nc π _ (q.h 0 _)]
def AW(ns:List Nat)(nx N:Nat)(h:List (Nat×B)):List (Nat×B)->List (Nat×B)
 |[]=>h|(k,b)::r=>cond (Nat.blt k N) (ug (AW ns nx N h r) (nm ns nx k) (rB (nm ns nx) b)) ((nm ns nx k,rB (nm ns nx) b)::AW ns nx N h r)
def EJ(N:Nat)(h:List (Nat×B)):Bool:=(List.range N).all fun k=>(gt h k).isSome
theorem Xz{ns:List Nat}{nx N:Nat}{h:List (Nat×B)}(hl:ns.length=N)(hi:∀i j,nm ns nx i=nm ns nx j->i=j)(hsome:∀k,k<N->(gt h (nm ns nx k)).isSome=true)(hnew:∀k,N<=k->gt h (nm ns nx k)=none):∀(r:List (Nat×B))(k:Nat),gt (AW ns nx N h r) k=match gt (pJ ns nx r) k with
  |some b=>some b|none=>gt h k
 |[],k=>by simp[AW,pJ,gt]
 |(j,b)::r,k=>by
  have ih:=Xz hl hi hsome hnew r;simp only[AW,pJ,aK];cases hj:Nat.blt j N with
  |true=>
   have hjN:j<N:=zY hj;simp only[zC,bL];by_cases e:nm ns nx j=k;subst e;have hs:=hsome j hjN;have:(gt (AW ns nx N h r) (nm ns nx j)).isSome=true:=by rw[ih];split<;>simp_all
   rcases hg:gt (AW ns nx N h r) (nm ns nx j)with _|c;rw[hg]at this;cases this;simp;simp[e,ih]
  |false=>simp only[zD,aK];by_cases e:nm ns nx j=k;simp[e];simp[e,ih]
theorem aO.st{P:Program}{f:FuncId}{args0 args:List U}{h0:List (Nat×B)}{N N1:Nat}{U0 U1:(Nat->Nat)->U}{h1:(Nat->Nat)->List (Nat×B)}{S1:(Nat->Nat)->Sg}(ns:List Nat){σ:Sg}
  (h:aO P f args0 ⟨h0,N⟩ (fun u σ'=>∃t:Nat->Nat,u=U0 t/\σ'=⟨h1 t,N1⟩)) [ha:jC N args0] [hb:BH N h0]
  (hn:Is ns σ.nx=true:=by rfl) (hN:ns.length=N:=by rfl) (hk:Cn N h0=true:=by rfl) (hal:EJ N h0=true:=by rfl) (Tg:∀t,EJ N (h1 t)=true:=by intro t;rfl)
  (hh:AA ns σ.nx σ.h h0:=by simp only[AA,gt,Nat.beq,zC,zD,nm,rB,PT,dC,rU,FO,Ch,and_true,true_and]<;>first |rfl |exact⟨rfl,trivial⟩|exact⟨rfl,rfl,trivial⟩|exact⟨rfl,rfl⟩)
  (hargs:dC (nm ns σ.nx) args0=args:=by(simp only[nm,PT,dC,rU,FO])<;>rfl)
  (hU:∀t,rU (nm ns σ.nx) (U0 t)=U1 t:=by(intro t;simp only[nm,PT,dC,rU,FO])<;>rfl)
  (hS:∀t,(⟨AW ns σ.nx N σ.h (h1 t),σ.nx+(N1-N)⟩:Sg)=S1 t:=by(intro t;simp only[AW,Nat.blt,Nat.ble,Nat.sub_self,Nat.add_zero,Nat.reduceAdd,Nat.reduceSub,ug,Nat.beq,zC,zD,nm,rB,PT,dC,rU,FO,Ch])<;>rfl):
  aO P f args σ (fun u σ'=>∃t:Nat->Nat,u=U1 t/\σ'=S1 t):=by
 subst hN;obtain⟨g1,g2⟩:=Xs hn;have hsub:=Uu hh hk hb.h;have hi:∀i j,nm ns σ.nx i=nm ns σ.nx j->i=j:=fun i j h=>Vi g1 g2 h;have hA:∀{h:List (Nat×B)},EJ ns.length h=true->∀k,k<ns.length->(gt h k).isSome=true:=fun{h} he k hk=>by unfold EJ at he;rw[List.all_eq_true]at he;exact he k (List.mem_range.2 hk)
 have hsome:∀k,k<ns.length->(gt σ.h (nm ns σ.nx k)).isSome=true:=fun k hk=>by have:=hA hal k hk;rcases hg:gt h0 k with _|b;rw[hg]at this;cases this;rw[(hsub k b hg).2.2];rfl
 intro F x vs m w cargs hx hh' hfr he hfit hcargs;have hnew:∀k,ns.length<=k->gt σ.h (nm ns σ.nx k)=none:=fun k hk=>by rcases hg:gt σ.h (nm ns σ.nx k)with _|b;rfl;have h2:=(hh'.ok (nm ns σ.nx k) b (by rw[hx];exact hg)).1;rw[hx,B5 ns σ.nx k hk]at h2;omega
 have h3:=aO.frame ns h σ g1 g2 ha.h hsub;rw[hargs]at h3;have h4:aO P f args σ (fun u σ'=>∃t:Nat->Nat,u=U1 t/\σ'=S1 t):=aO.post h3 ?_;exact h4 F x vs m w cargs hx hh' hfr he hfit hcargs;rintro u σ' ⟨u0,jD,⟨t,rfl,rfl⟩,hle,rfl,rfl⟩;refine⟨U1 t,S1 t,?_,?_,t,rfl,rfl⟩;rw[<-hS t];exact Nat.le_add_right _ _;rw[<-hS t,<-hU t];refine Gh.same (n0:=σ.nx) (tm:=[rU (nm ns σ.nx) (U0 t)]) (σ:=ZJ ns σ ⟨h1 t,N1⟩) (AW ns σ.nx ns.length σ.h (h1 t)) (fun k=>?_);show _=gt (pJ ns σ.nx (h1 t)++wK ns σ.h) k;rw[Xz rfl hi hsome hnew,Pt,VL];cases hg:gt (pJ ns σ.nx (h1 t)) k with
 |some b=>rfl|none=>by_cases hkn:k∈ns;exfalso;obtain⟨j,hj,e⟩:=List.getElem_of_mem hkn;obtain⟨_,e2⟩:=wH ns σ.nx j hj;rw[e]at e2;rw[<-e2,Nu hi]at hg;have:=hA (Tg t) j hj;rcases E3:gt (h1 t) j with _|c;rw[E3]at this;cases this;rw[E3]at hg;cases hg;rw[if_neg hkn]
end Go.Vx
