import Derived.DataReads
import Derived.ChangeArms
import Derived.OpenShut
import Derived.ChangeSame
import Derived.Test.YtldlchbgolpkaaaGreatP8
set_option linter.all false
namespace Go.Vx
open Go Go.Rx
theorem gm{α β:Type}{f:α->Option β}:∀{l:List α}{r:List β},l.mapM f=some r->r.length=l.length/\∀(i:Nat)(a:α),l[i]? = some a->∃b,r[i]? = some b/\f a=some b
 |[],r,h=>by simp at h;subst h;simp
 |a::l,r,h=>by
  simp only[List.mapM_cons,bind,Option.bind]at h;rcases h1:f a with _|b;simp[h1]at h;simp only[h1]at h;rcases h2:l.mapM f with _|r';simp[h2]at h;simp[h2,pure]at h;subst h;obtain⟨g1,g2⟩:=gm h2;refine⟨by simp[g1],fun i x hx=>?_⟩;cases i with
  |zero=>simp at hx;subst hx;exact⟨b,rfl,h1⟩|succ i=>simp at hx;simpa using g2 i x hx
theorem Mj(W:World):∀(l:List U)(vs:List Value),kM W l vs↔∀(i:Nat)(u:U),l[i]? = some u->∃v,vs[i]? = some v/\Rep W u v
 |[],vs=>by simp[kM]
 |u::us,[]=>by simp only[kM,false_iff];intro h;obtain⟨v,hv,_⟩:=h 0 u rfl;simp at hv
 |u::us,v::vs=>by
  simp only[kM,Mj W us vs];constructor;rintro⟨h1,h2⟩ i w hi;cases i with
  |zero=>simp at hi;subst hi;exact⟨v,rfl,h1⟩|succ i=>simp at hi;simpa using h2 i w hi
  intro h;refine⟨?_,fun i w hi=>by simpa using h (i+1) w (by simpa using hi)⟩;obtain⟨v',h1,h2⟩:=h 0 u rfl;simp at h1;subst h1;exact h2
theorem lf{W:World}{sz:Nat}:∀{l:List (List U)}{vs:List Value},(∀(i:Nat)(c:List U),l[i]? = some c->c.length=sz/\okL c=true/\kM W c (vs.drop (i*sz)))->FV W sz l vs
 |[],vs,h=>by simp[FV]
 |d::l,vs,h=>by simp only[FV];have h0:=h 0 d rfl;refine⟨h0.1,h0.2.1,by simpa using h0.2.2,lf fun i c hc=>?_⟩;have:=h (i+1) c (by simpa using hc);rw[List.drop_drop];rw[Nat.succ_mul,Nat.add_comm]at this;exact this
def ZI(P:Program):Nat->List Field->Nat->Bool
 |o,[],n=>Nat.beq o n|o,f::fs,n=>cond (Nat.beq f.offset o) (ZI P (o+P.cellsOf f.type) fs n) false
def O8(P:Program)(TS:List TypeId)(t:TypeId):Bool:=match P.underlying t with
 |some .bool=>true|some (.int _)=>true
 |some .string=>true|some (.slice e)=>cond (TS.any (Nat.beq e)) (Nat.blt 0 (P.cellsOf e)) false
 |some (.struct fs)=>cond (ZI P 0 fs.toList (P.cellsOf t)) (fs.toList.all fun f=>TS.any (Nat.beq f.type)) false|some (.array n e)=>cond (TS.any (Nat.beq e)) (Nat.beq (P.cellsOf t) (n*P.cellsOf e)) false
 |_=>false
def closedTS(P:Program)(TS:List TypeId):Bool:=TS.all (O8 P TS)
theorem Wh{TS:List TypeId}{e:TypeId}(h:TS.any (Nat.beq e)=true):e∈TS:=by
 obtain⟨x,h1,h2⟩:=List.any_eq_true.1 h;have:e=x:=by simpa[beq_eq]using h2
 rw[this];exact h1
theorem Y'{W:World}{P:Program}{fuel:Nat}{cs:List Value}:∀(fs:List Field)(o n:Nat),ZI P o fs n=true->n<=cs.length->
  (∀f∈fs,∃us,kM W us ((cs.drop f.offset).take (P.cellsOf f.type))/\us.length=((cs.drop f.offset).take (P.cellsOf f.type)).length/\okL us=true/\OfTy P fuel f.type us)->
  ∃us,kM W us (cs.drop o)/\us.length=n-o/\okL us=true/\o<=n/\∀f∈fs,o<=f.offset/\OfTy P fuel f.type ((us.drop (f.offset-o)).take (P.cellsOf f.type))
 |[],o,n,hc,hl,h=>by
  have:o=n:=by simpa[ZI,beq_eq]using hc
  subst this;exact⟨[],by simp[kM],by simp,rfl,zF _,by simp⟩
 |f::fs,o,n,hc,hl,h=>by
  simp only[ZI]at hc;obtain⟨h1,h2⟩:=EU hc;have ho:f.offset=o:=by simpa[beq_eq]using h1
  obtain⟨us,g1,g2,g3,g4,g5⟩:=Y' fs _ n h2 hl fun x hx=>h x (by simp[hx]);obtain⟨u0,k1,k2,k3,k4⟩:=h f (by simp);rw[ho]at k1 k2;have k5:u0.length=P.cellsOf f.type:=by rw[k2];simp;omega
  refine⟨u0++us,?_,by simp[k5,g2];omega,BZ k3 g3,by omega,fun x hx=>?_⟩;rw[Mj]at k1 g1 ⊢;intro i u hu;rw[List.getElem?_append]at hu;split at hu;rename_i hlt;obtain⟨v,q1,q2⟩:=k1 i u hu;rw[List.getElem?_take]at q1;rw[k5]at hlt;simp only[hlt,if_true]at q1;exact⟨v,q1,q2⟩;rename_i hlt;obtain⟨v,q1,q2⟩:=g1 _ u hu;rw[List.getElem?_drop]at q1 ⊢;exact⟨v,by rw[k5]at q1 hlt;rw[show o+i=o+P.cellsOf f.type+(i-P.cellsOf f.type) by omega];exact q1,q2⟩;rcases zI.1 hx with rfl |hx;refine⟨by omega,?_⟩;rw[ho,Nat.sub_self,List.drop_zero,<-k5,List.take_left' rfl];exact k4;obtain⟨q1,q2⟩:=g5 x hx;refine⟨by omega,?_⟩;rw[show x.offset-o=u0.length+(x.offset-(o+P.cellsOf f.type)) by omega,List.drop_append,List.drop_of_length_le (by omega),List.nil_append,Nat.add_sub_cancel_left];exact q2
theorem I'{W:World}{P:Program}{fuel:Nat}{cs:List Value}{e:TypeId}{sz:Nat}:∀(n:Nat),n*sz<=cs.length->
  (∀i,i<n->∃us,kM W us ((cs.drop (i*sz)).take sz)/\us.length=((cs.drop (i*sz)).take sz).length/\okL us=true/\OfTy P fuel e us)->
  ∃us,kM W us cs/\us.length=n*sz/\okL us=true/\∀i,i<n->OfTy P fuel e ((us.drop (i*sz)).take sz)
 |0,hl,h=>⟨[],by simp[kM],by simp,rfl,by simp⟩|n+1,hl,h=>by
  rw[Nat.succ_mul]at hl;obtain⟨us,g1,g2,g3,g4⟩:=I' n (by omega) fun i hi=>h i (by omega);obtain⟨u0,k1,k2,k3,k4⟩:=h n (by omega);have k5:u0.length=sz:=by rw[k2];simp;omega
  refine⟨us++u0,?_,by rw[zU,g2,k5,Nat.succ_mul],BZ g3 k3,fun i hi=>?_⟩;rw[Mj]at k1 g1 ⊢;intro i u hu;rw[List.getElem?_append]at hu;split at hu;exact g1 i u hu;rename_i hlt;obtain⟨v,q1,q2⟩:=k1 _ u hu;rw[List.getElem?_take]at q1;split at q1;rw[List.getElem?_drop]at q1;exact⟨v,by rw[g2]at q1 hlt;rw[show i=n*sz+(i-n*sz) by omega];exact q1,q2⟩;cases q1;by_cases hin:i<n;have:=g4 i hin
  have hle:i*sz+sz<=us.length:=by rw[g2,<-Nat.succ_mul];exact Nat.mul_le_mul_right _ hin
  rw[List.drop_append_of_le_length (by omega),List.take_append_of_le_length (by simp;omega)];exact this;have:i=n:=by omega
  subst this;rw[<-g2,List.drop_left' rfl,<-k5,List.take_length];exact k4
section
variable{H:Type}{enc:TypeId×Value->H}{P:Program}{W:World}{TS:List TypeId}(hTS:closedTS P TS=true)
include hTS
omit hTS in
theorem Xh{a:Addr}{n:Nat}{cs:List Value}(hn:0<n)(h:W.cells? 0 a n=some cs):∃c e fr,a.spot=none/\W.heap[a.block]? = some (.cells c e fr)/\cs.length=n/\∀(k:Nat)(v:Value),cs[k]? = some v->c.toList[a.off+k]? = some v:=by
 unfold World.cells? at h;simp only[Nat.zero_le,if_true]at h;obtain⟨g1,g2⟩:=gm h;obtain⟨v0,k1,k2⟩:=g2 0 0 (by simp[hn]);have hsp:a.spot=none:=by have:=World.cell?_spot k2;simpa[Addr.add]using this
 have hadd:∀k,a.add k=⟨a.block,a.off+k,none⟩:=fun k=>by obtain⟨b,o,sp⟩:=a;simp only at hsp;subst hsp;exact sZ b o k
 rw[hadd]at k2;unfold World.cell? at k2;rcases hw:W.heap[a.block]? with _|o;simp[hw]at k2;cases o with
 |cells c e fr=>
  refine⟨c,e,fr,hsp,rfl,by simpa using g1,fun k v hk=>?_⟩;have hlt:k<n:=by have:=(zG.1 hk).1;rw[g1]at this;simpa using this
  obtain⟨v',q1,q2⟩:=g2 k k (by simp[hlt]);rw[hk]at q1;cases q1;rw[hadd]at q2;simp only[World.cell?,hw]at q2;simpa using q2
 |_=>simp[hw]at k2
theorem Mh:∀(fuel:Nat)(t:TypeId),t∈TS->∀(cs:List Value)(x:DataW H×List MemPlace),DataW.trod enc P W 0 (fun _=>true) true fuel t cs=some x->∃us,kM W us cs/\us.length=cs.length/\okL us=true/\OfTy P fuel t us
 |0,t,ht,cs,x,h=>by simp[DataW.trod]at h
 |fuel+1,t,ht,cs,x,h=>by
  have hty:=List.all_eq_true.1 hTS t ht;unfold O8 at hty;rcases hd:P.underlying t with _|d;simp[hd]at hty;cases d with
  |bool=>obtain⟨b,rfl,_⟩:=DataW.trod_bool hd h;exact⟨[.bool b],by simp[kM,Rep],rfl,rfl,by simp[OfTy,hd]⟩
  |int k=>obtain⟨n,rfl,_,hwf⟩:=DataW.trod_int hd h;exact⟨[.int k n],by simp[kM,Rep],rfl,rfl,by simp[OfTy,hd,hwf]⟩
  |string=>obtain⟨s,rfl,_,hsz⟩:=DataW.trod_string hd h;refine⟨[.str s.data.toList],by simp[kM,Rep],rfl,rfl,?_⟩;simp only[OfTy,hd];exact⟨_,rfl,by simpa using hsz⟩
  |slice e=>
   simp only[hd]at hty;obtain⟨hte,hpos⟩:=EU hty;have he:=Wh hte;have hsz:0<P.cellsOf e:=BW hpos;rcases DataW.trod_slice hd h with⟨rfl,_⟩|⟨a,len,cap,elems,rest,n,hfu,rfl,_,_,hlc,hcm,hlen,hel,hsp,_⟩;refine⟨[.isl false []],by simp[kM,Rep],rfl,rfl,?_⟩;simp only[OfTy,hd];exact⟨[],rfl,by simp,by simp⟩;have hn:n=fuel:=by omega
   subst hn;have hcap:cap<bL:=by unfold bL;unfold maxLen at hcm;omega
   have each:∀i,i<len->∃us,us.length=P.cellsOf e/\okL us=true/\OfTy P n e us/\∃c ty fr,a.spot=none/\W.heap[a.block]? = some (.cells c ty fr)/\kM W us (c.toList.drop (a.off+i*P.cellsOf e)):=by
    intro i hi;have h1:=hel i hi;have h2:elems[i]? = some elems[i]:=by simp[hlen,hi]
    rw[h2]at h1;rcases hc:W.cells? 0 (a.add (i*P.cellsOf e)) (P.cellsOf e)with _|ci;simp[hc]at h1;simp only[hc,Option.bind_some]at h1;obtain⟨us,r1,r2,r3,r4⟩:=Mh n e he ci _ h1;obtain⟨c,ty,fr,k1,k2,k3,k4⟩:=Xh hsz hc;have hspa:a.spot=none:=by
     have h3:=hel 0 (by omega);have h4:elems[0]? = some (elems[0]'(by omega)):=by simp[hlen,show 0<len by omega]
     rw[h4]at h3;rcases CT:W.cells? 0 (a.add (0*P.cellsOf e)) (P.cellsOf e)with _|c0;rw[CT]at h3;cases h3;obtain⟨_,_,_,q1,_⟩:=Xh hsz CT;simpa[Addr.add]using q1
    have hadd:a.add (i*P.cellsOf e)=⟨a.block,a.off+i*P.cellsOf e,none⟩:=by obtain⟨b,o,sp⟩:=a;simp only at hspa;subst hspa;exact sZ b o _
    rw[hadd]at k2 k4;refine⟨us,by rw[r2,k3],r3,r4,c,ty,fr,hspa,k2,?_⟩;rw[Mj]at r1 ⊢;intro k u hu;obtain⟨v,q1,q2⟩:=r1 k u hu;exact⟨v,by rw[List.getElem?_drop];exact k4 k v q1,q2⟩
   have all:∀m,m<=len->∃l:List (List U),l.length=m/\∀(i:Nat)(us:List U),l[i]? = some us->us.length=P.cellsOf e/\okL us=true/\OfTy P n e us/\∃c ty fr,a.spot=none/\W.heap[a.block]? = some (.cells c ty fr)/\kM W us (c.toList.drop (a.off+i*P.cellsOf e)):=by
    intro m;induction m with
    |zero=>intro _;exact⟨[],rfl,by simp⟩|succ m ih=>
     intro hm;obtain⟨l,l1,l2⟩:=ih (by omega);obtain⟨us,hus⟩:=each m (by omega);refine⟨l++[us],by simp[l1],fun i vs hvs=>?_⟩;rw[List.getElem?_append]at hvs;split at hvs;exact l2 i vs hvs;rename_i hge;have:i=m:=by have:=(zG.1 hvs).1;simp at this;omega
     subst this;rw[l1,Nat.sub_self]at hvs;simp at hvs;subst hvs;exact hus
   obtain⟨l,l1,l2⟩:=all len (zF _);refine⟨[.isl false l],?_,rfl,rfl,?_⟩;simp only[kM,and_true,Rep,true_and];by_cases FH:l=[];subst FH;simp at l1;subst l1;obtain⟨b,o,sp⟩:=a;rcases sp with _|p;exact .inr ⟨b,o,cap,rfl,hcap,Nat.zero_le _,.inl rfl⟩;rcases Nat.eq_zero_or_pos cap with h0 |hp;subst h0;exact .inl ⟨rfl,.inr ⟨b,o,p,rfl⟩⟩;exfalso;obtain⟨s1,s2⟩:=hsp rfl;have h3:=s2 0 (by omega);have h4:rest[0]? = some (rest[0]'(by omega)):=by simp[s1,hp]
   rw[h4]at h3;rcases CT:W.cells? 0 (Addr.add ⟨b,o,some p⟩ ((0+0)*P.cellsOf e)) (P.cellsOf e)with _|c0;rw[CT]at h3;cases h3;obtain⟨_,_,_,q1,_⟩:=Xh hsz CT;simp[Addr.add]at q1;obtain⟨Kn,zg⟩:∃Kn,l[0]? = some Kn:=by cases l with
    |nil=>exact absurd rfl FH|cons a l=>exact⟨a,rfl⟩
   obtain⟨_,_,_,c,ty,fr,LH,hw,_⟩:=l2 0 Kn zg;refine .inr ⟨a.block,a.off,cap,by obtain⟨b,o,sp⟩:=a;simp only at LH;subst LH;rw[l1],hcap,by omega,.inr ⟨c,ty,fr,P.cellsOf e,hw,lf fun i us hi=>?_⟩⟩;obtain⟨q1,q2,_,c',ty',fr',_,hw',q3⟩:=l2 i us hi;rw[hw]at hw';cases hw';exact⟨q1,q2,by rw[List.drop_drop];exact q3⟩;simp only[OfTy,hd];refine⟨l,rfl,by omega,fun us hus=>?_⟩;obtain⟨i,hi⟩:=List.mem_iff_getElem?.1 hus;exact(l2 i us hi).2.2.1
  |struct fs=>
   simp only[hd]at hty;obtain⟨hcg,hall⟩:=EU hty;obtain⟨xs,m,hfu,_,hl,hxl,hf⟩:=DataW.trod_struct hd h;have hm:m=fuel:=by omega
   subst hm;obtain⟨us,g1,g2,g3,_,g5⟩:=Y' (W:=W) (P:=P) (fuel:=m) (cs:=cs) fs.toList 0 (P.cellsOf t) hcg (by omega) fun f hfm=>by
    obtain⟨i,hi⟩:=List.mem_iff_getElem?.1 hfm;have h1:=hf i f (by simpa using hi);have h2:i<xs.length:=by rw[hxl];have:=(zG.1 hi).1;simpa using this
    rw[show xs[i]? = some xs[i] by simp[h2]]at h1;exact Mh m f.type (Wh (List.all_eq_true.1 hall f hfm)) _ _ h1
   refine⟨us,by simpa using g1,by omega,g3,?_⟩;simp only[OfTy,hd];exact⟨by omega,fun f hfm=>by simpa using(g5 f hfm).2⟩
  |array n e=>
   simp only[hd]at hty;obtain⟨hte,hcells⟩:=EU hty;have he:=Wh hte;obtain⟨xs,m,hfu,_,hl,hxl,hf⟩:=DataW.trod_array hd h;have hm:m=fuel:=by omega
   subst hm;have hcells':P.cellsOf t=n*P.cellsOf e:=by simpa[beq_eq]using hcells
   obtain⟨us,g1,g2,g3,g4⟩:=I' (W:=W) (P:=P) (fuel:=m) (cs:=cs) (e:=e) (sz:=P.cellsOf e) n (by omega) fun i hi=>by have h1:=hf i hi;rw[show xs[i]? = some xs[i] by simp[hxl,hi]]at h1;exact Mh m e he _ _ h1
   refine⟨us,g1,by omega,g3,?_⟩;simp only[OfTy,hd];exact⟨by omega,g4⟩
  |_=>simp[hd]at hty
def OfArg(P:Program)(t:TypeId)(u:U):Prop:=∃fuel us,OfTy P fuel t us/\match P.underlying t with
 |some (.struct _)=>u=.agg us|some (.array _ _)=>u=.agg us
 |_=>us=[u]
def OfArgs(P:Program):List TypeId->List U->Prop
 |[],us=>us=[]|t::ts,us=>∃u us',us=u::us'/\OfArg P t u/\OfArgs P ts us'
theorem z9q{t:TypeId}(ht:t∈TS){v:Value}{d:DataW H}{ps:List MemPlace}{r:Reach}{b0:Nat}(hval:Value.okWide P W r b0 t v)(h:DataW.Trod enc P W 0 (fun _=>true) true t v d ps):∃u,Rep W u v/\OfArg P t u:=by
 obtain⟨fuel,hf⟩:=h;obtain⟨us,h1,h2,h3,h4⟩:=Mh hTS fuel t ht _ _ hf;have hty:=List.all_eq_true.1 hTS t ht;unfold O8 at hty;have one:v.cells.toList=[v]->(match P.underlying t with
   |some (.struct _)=>False|some (.array _ _)=>False
   |_=>True)->∃u,Rep W u v/\OfArg P t u:=fun hc hm=>by
  rw[hc]at h1 h2
  match us,h2 with
  |[u],_=>simp only[kM,and_true]at h1;refine⟨u,h1,fuel,[u],h4,?_⟩;split<;>simp_all
 have agg:(∃cs,v=.agg cs)->(match P.underlying t with
   |some (.struct _)=>True|some (.array _ _)=>True
   |_=>False)->∃u,Rep W u v/\OfArg P t u:=fun⟨cs,hc⟩ hm=>by
  subst hc;refine⟨.agg us,?_,fuel,us,h4,?_⟩;simp only[Rep];exact⟨cs.toList,rfl,h1,h2,h3⟩;split<;>simp_all
 unfold Value.okWide at hval;rcases hd:P.underlying t with _|dd;simp[hd]at hty;cases dd with
 |struct fs=>simp only[hd]at hval;obtain⟨cs,hc,_⟩:=hval;exact agg ⟨cs,hc⟩ (by simp[hd])
 |array n e=>simp only[hd]at hval;obtain⟨cs,hc,_⟩:=hval;exact agg ⟨cs,hc⟩ (by simp[hd])
 |bool=>refine one ?_ (by simp[hd]);simp only[hd,Cell.okWide]at hval;cases v<;>first |rfl |(simp[Cell.ok,hd]at hval)
 |int k=>refine one ?_ (by simp[hd]);simp only[hd,Cell.okWide]at hval;cases v<;>first |rfl |(simp[Cell.ok,hd]at hval)
 |string=>refine one ?_ (by simp[hd]);simp only[hd,Cell.okWide]at hval;cases v<;>first |rfl |(simp[Cell.ok,hd]at hval)
 |slice e=>refine one ?_ (by simp[hd]);simp only[hd,Cell.okWide]at hval;cases v<;>first |rfl |(simp[Cell.ok,hd]at hval)
 |_=>simp[hd]at hty
theorem args_rep:∀{ts:List TypeId}{vs:List Value}{ds:List (DataW H)}{ps:List MemPlace}{r:Reach}{b0:Nat},(∀t∈ts,t∈TS)->(∀(j:Nat) t v,ts[j]? = some t->vs[j]? = some v->Value.okWide P W r b0 t v)->DataW.TrodAll enc P W 0 (fun _=>true) true ts vs ds ps->
  ∃us,kM W us vs/\us.length=vs.length/\OfArgs P ts us
 |[],[],[],ps,r,b0,ht,hval,h=>⟨[],by simp[kM],rfl,rfl⟩|t::ts,v::vs,d::ds,ps,r,b0,ht,hval,h=>by obtain⟨p,q,h1,h2,_⟩:=h;obtain⟨u,g1,g2⟩:=z9q hTS (ht t (by simp)) (hval 0 t v rfl rfl) h1;obtain⟨us,k1,k2,k3⟩:=args_rep (fun x hx=>ht x (by simp[hx])) (fun j x y h3 h4=>hval (j+1) x y (by simpa using h3) (by simpa using h4)) h2;exact⟨u::us,by simp[kM,g1,k1],by simp[k2],u,us,rfl,g2,k3⟩
 |[],_::_,_,ps,r,b0,ht,hval,h=>by simp[DataW.TrodAll]at h
 |[],[],_::_,ps,r,b0,ht,hval,h=>by simp[DataW.TrodAll]at h
 |_::_,[],_,ps,r,b0,ht,hval,h=>by simp[DataW.TrodAll]at h
 |_::_,_::_,[],ps,r,b0,ht,hval,h=>by simp[DataW.TrodAll]at h
end
def I2:Option iZ->Option iZ
 |some (.inl (l,e,1))=>some (.inl (l,e,1))|_=>none
def U2(g:Nat->Option iZ):Hp->Hp
 |[]=>[]|(i,_)::h=>match g i with
  |some b=>(i,b)::U2 g h|none=>U2 g h
theorem mw(g:Nat->Option iZ):∀(h:Hp)(i:Nat),lk (U2 g h) i=(match lk h i with |some _=>g i |none=>none)
 |[],i=>by simp[U2,lk]
 |(j,b)::h,i=>by
  have ih:=mw g h i;simp only[U2];cases hg:g j with
  |none=>simp only[jY];by_cases e:j=i;subst e;simp only[if_true];rw[ih,hg];split<;>rfl;simp only[e,if_false];exact ih|some c=>simp only[jY];by_cases e:j=i;subst e;simp[hg];simp only[e,if_false];exact ih
def wZ(s:S):S:=⟨U2 (fun i=>I2 (lk s.h i)) s.h,s.nx⟩
theorem PC(s:S)(i:Nat):lk (wZ s).h i=I2 (lk s.h i):=by
 simp only[wZ,mw];rcases h:lk s.h i with _|b;rfl;simp
theorem Az{o:Option iZ}{b:iZ}(h:I2 o=some b):o=some b/\∃l e,b=.inl (l,e,1):=by
 unfold I2 at h;split at h;simp at h;subst h;exact⟨rfl,_,_,rfl⟩;cases h
theorem X'(s:S):Less s (wZ s):=⟨zF _,fun i b hb=>by rw[PC]at hb;exact(Az hb).1⟩
theorem aY.view{P:Program}{f:FuncId}{args args':List U}{σ:Sg}{u:U}{v:Value}(h:aY P f args ⟨[],0⟩ (fun u' _=>u'=u/\aU 0 u'))(ha:aG 0 args)(hu:toV u=some v)(hren:∀m,aD m v=v){σ1:Sg}(hg:Gh 0 args' σ args σ1):aY P f args' σ (fun u' σ'=>u'=u/\σ'=σ):=fun F x vs m w cargs hx hh hfr he hfit hargs=>by
 obtain⟨y1,a1,a2,a3,a4,a5,a6⟩:=hg F x vs hx hh hfr he;have hadv1:=a1 m w hfit;have hadv2:=bD.less hadv1.fits (X' y1.s);have hmo:Mo 0 y1 (cx (wZ y1.s)):=⟨fun k hk=>by omega,fun i row e hl=>by show lk (wZ y1.s).h i=_;rw[PC,hl];rfl⟩;have hno:∀b,¬ IW m (wZ y1.s) b:=fun b ⟨i,c,hc,ho,_⟩=>by rw[PC]at hc;obtain⟨_,l,e,rfl⟩:=Az hc;simp[Own]at ho
 refine(h (fun _ _=>False) (cx (wZ y1.s)) vs m w cargs rfl ⟨fun k b hb=>by simp[cx,gt]at hb,fun k k' b b' i hb=>by simp[cx,gt]at hb,fun i b hb=>?_⟩ (fun _ _ J=>J.elim) (hmo.ke.E ha a5) hadv2.fits (hargs.ext (aH.refl _ _) (Nat.le_trans hadv1.nx hadv2.nx))).mono ?_;have hb':lk (wZ y1.s).h i=some b:=hb;rw[PC]at hb';exact a3.bd i b (Az hb').1;rintro e lD ⟨y2,xP,u',v',cv,rfl,⟨rfl,_⟩,hadv,hrel,_,_,hru,_,_⟩;have hv:=(u6 u' v hu y2 v').1 hru;subst hv;have hcv:cv=v':=by rw[<-hrel.at,hren]
 subst hcv;have hsame:∀b,b<w.heap.size->lD.heap[b]? = w.heap[b]?:=fun b hlt=>hadv.same b hlt (hno b);refine⟨x,m,u',cv,cv,rfl,⟨rfl,hx⟩,⟨aH.refl _ _,zF _,fun m' hm'=>?_,fun b h=>.inl h,fun b hlt _=>hsame b hlt,hadv.size,hadv.os,hadv.tape,hadv.output⟩,fun m' _=>hren m',hh,hfr,(u6 u' cv hu x cv).2 rfl,Ke.refl _ _,zF _⟩;have hfm:=hfit m' hm';exact⟨fun i b hb=>(hfm.ok i b hb).world (hsame _ (hfm.size hb)),hfm.inj,hfm.bd⟩
abbrev RK:=Nat×cT
def RH(P:Program)(T:Tb)(ops:List Oper):List Oper->List U->Sg->List RK->(List RK->List U->Sg->Prop)->Prop
 |[],tm,σ,acc,K=>K acc tm σ|o::r,tm,σ,acc,K=>(bW ops tm o=some true/\∃u,bB T σ tm o.op=some (u,σ)/\RH P T ops r (d5 tm o.dst u) σ ((1,⟨tm,o,u,false,false,σ,σ⟩)::acc) K)\/ (bW ops tm o=some true/\∃u σ',bB T σ tm o.op=some (u,σ')/\RH P T ops r (d5 tm o.dst u) σ' ((3,⟨tm,o,u,true,true,σ,σ'⟩)::acc) K)\/ (bW ops tm o=some true/\∃f args u,i9 T tm o.op=some (f,args)/\aY P f args σ (fun u' σ'=>u'=u/\σ'=σ)/\RH P T ops r (d5 tm o.dst u) σ ((2,⟨tm,o,u,true,false,σ,σ⟩)::acc) K)\/ (bW ops tm o=some true/\∃f args u σ',i9 T tm o.op=some (f,args)/\aY P f args σ (fun u' s'=>u'=u/\s'=σ')/\RH P T ops r (d5 tm o.dst u) σ' ((3,⟨tm,o,u,true,true,σ,σ'⟩)::acc) K)\/ (bW ops tm o=some false/\RH P T ops r (d5 tm o.dst (.tup [])) σ ((0,⟨tm,o,.tup [],false,false,σ,σ⟩)::acc) K)\/ (bW ops tm o=some true/\∃u,tW P T tm o.op u/\RH P T ops r (d5 tm o.dst u) σ ((0,⟨tm,o,u,false,false,σ,σ⟩)::acc) K)\/ (bW ops tm o=some true/\∃u1 s1 d u σ',bB T σ tm o.op=some (u1,s1)/\o.dst=some d/\d<tm.length/\Gh s1.nx [u1] s1 [u] σ'/\s1.nx<=σ'.nx/\RH P T ops r (d5 tm o.dst u) σ' ((3,⟨tm,o,u,true,true,σ,σ'⟩)::acc) K)
def kindOk(T:Tb)(ops:List Oper)(x:RK):Prop :=
 (x.1=0/\(bW ops x.2.tm x.2.o=some false\/bB T x.2.s x.2.tm x.2.o.op≠some (x.2.u,x.2.s'))/\x.2.act=false/\x.2.mv=false)\/(x.1=1/\x.2.act=false/\x.2.mv=false)\/(x.1=2/\x.2.act=true/\x.2.mv=false)\/(x.1=3/\x.2.act=true/\x.2.mv=true)
theorem RD.mono{P:Program}{T:Tb}{ops:List Oper}:∀{rest:List Oper}{tm:List U}{σ:Sg}{K K':List cT->List U->Sg->Prop},(∀rs tm σ,K rs tm σ->K' rs tm σ)->RD P T ops rest tm σ K->RD P T ops rest tm σ K'
 |[],tm,σ,K,K',hk,h=>hk _ _ _ h|o::rest,tm,σ,K,K',hk,h=>by simp only[RD]at h ⊢;rcases h with⟨hw,u,h1,h2⟩|⟨hw,u,σ1,h1,h2⟩|⟨hw,f,args,u,h1,h2,h3⟩|⟨hw,f,args,u,σ1,h1,h2,h3⟩|⟨hw,h1⟩|⟨hw,u,h1,h3⟩|⟨hw,u1,s1,d,u,σ1,h1,h2,h3,h4,h5,h6⟩;exact .inl ⟨hw,u,h1,RD.mono (fun _ _ _ h=>hk _ _ _ h) h2⟩;exact .inr (.inl ⟨hw,u,σ1,h1,RD.mono (fun _ _ _ h=>hk _ _ _ h) h2⟩);exact .inr (.inr (.inl ⟨hw,f,args,u,h1,h2,RD.mono (fun _ _ _ h=>hk _ _ _ h) h3⟩));exact .inr (.inr (.inr (.inl ⟨hw,f,args,u,σ1,h1,h2,RD.mono (fun _ _ _ h=>hk _ _ _ h) h3⟩)));exact .inr (.inr (.inr (.inr (.inl ⟨hw,RD.mono (fun _ _ _ h=>hk _ _ _ h) h1⟩))));exact .inr (.inr (.inr (.inr (.inr (.inl ⟨hw,u,h1,RD.mono (fun _ _ _ h=>hk _ _ _ h) h3⟩)))));exact .inr (.inr (.inr (.inr (.inr (.inr ⟨hw,u1,s1,d,u,σ1,h1,h2,h3,h4,h5,RD.mono (fun _ _ _ h=>hk _ _ _ h) h6⟩)))))
theorem RH.rd{P:Program}{T:Tb}{ops:List Oper}:∀{rest:List Oper}{tm:List U}{σ:Sg}{acc:List RK}{K:List RK->List U->Sg->Prop},RH P T ops rest tm σ acc K->
  RD P T ops rest tm σ (fun rs tm' σ'=>∃ks:List RK,ks.map (·.2)=rs/\(∀x∈ks,kindOk T ops x)/\K (ks.reverse++acc) tm' σ')
 |[],tm,σ,acc,K,h=>⟨[],rfl,by simp,h⟩|o::rest,tm,σ,acc,K,h=>by
  have step:∀(k:RK),kindOk T ops k->∀(rs:List cT)(tm':List U)(σ':Sg),(∃ks:List RK,ks.map (·.2)=rs/\(∀x∈ks,kindOk T ops x)/\K (ks.reverse++k::acc) tm' σ')->
    ∃ks:List RK,ks.map (·.2)=k.2::rs/\(∀x∈ks,kindOk T ops x)/\K (ks.reverse++acc) tm' σ':=by
   rintro k hk rs tm' σ' ⟨ks,h1,h2,h3⟩;refine⟨k::ks,by simp[h1],?_,by simpa using h3⟩;intro x hx;rcases zI.1 hx with rfl |hx;exact hk;exact h2 x hx
  simp only[RH]at h;simp only[RD];rcases h with⟨hw,u,h1,h2⟩|⟨hw,u,σ1,h1,h2⟩|⟨hw,f,args,u,h1,h2,h3⟩|⟨hw,f,args,u,σ1,h1,h2,h3⟩|⟨hw,h1⟩|⟨hw,u,h1,h3⟩|⟨hw,u1,s1,d,u,σ1,h1,h2,h3,h4,h5,h6⟩;exact .inl ⟨hw,u,h1,RD.mono (step (1,_) (.inr (.inl ⟨rfl,rfl,rfl⟩))) (RH.rd h2)⟩;exact .inr (.inl ⟨hw,u,σ1,h1,RD.mono (step (3,_) (.inr (.inr (.inr ⟨rfl,rfl,rfl⟩)))) (RH.rd h2)⟩);exact .inr (.inr (.inl ⟨hw,f,args,u,h1,h2,RD.mono (step (2,_) (.inr (.inr (.inl ⟨rfl,rfl,rfl⟩)))) (RH.rd h3)⟩));exact .inr (.inr (.inr (.inl ⟨hw,f,args,u,σ1,h1,h2,RD.mono (step (3,_) (.inr (.inr (.inr ⟨rfl,rfl,rfl⟩)))) (RH.rd h3)⟩)));exact .inr (.inr (.inr (.inr (.inl ⟨hw,RD.mono (step (0,_) (.inl ⟨rfl,.inl hw,rfl,rfl⟩)) (RH.rd h1)⟩))));exact .inr (.inr (.inr (.inr (.inr (.inl ⟨hw,u,h1,RD.mono (step (0,_) (.inl ⟨rfl,.inr (h1.noop _),rfl,rfl⟩)) (RH.rd h3)⟩)))));exact .inr (.inr (.inr (.inr (.inr (.inr ⟨hw,u1,s1,d,u,σ1,h1,h2,h3,h4,h5,RD.mono (step (3,_) (.inr (.inr (.inr ⟨rfl,rfl,rfl⟩)))) (RH.rd h6)⟩)))))
def allI{α:Type}(p:Nat->α->Bool):Nat->List α->Bool
 |_,[]=>true|b,x::l=>p b x&&allI p (b+1) l
theorem ZW{α:Type}{p:Nat->α->Bool}:∀{b:Nat}{l:List α},allI p b l=true->∀{j:Nat}{x:α},l[j]? = some x->p (b+j) x=true
 |b,[],_,j,x,hx=>by simp at hx
 |b,y::l,h,j,x,hx=>by
  simp only[allI,Bool.and_eq_true]at h;cases j with
  |zero=>simp at hx;subst hx;exact h.1|succ j=>
   simp only[zH]at hx;have:=ZW h.2 hx
   rwa [show b+1+j=b+(j+1) by omega]at this
def RE(k:Nat):Nat:=cond (Nat.beq k 3) 1 0
def trip:Nat->List Nat->List Nat->List (Nat×Nat×Nat)
 |c,k::ks,m::ms=>(k,m,c)::trip (c+RE k) ks ms|_,_,_=>[]
def iP:List Nat->Nat
 |[]=>0|k::ks=>RE k+iP ks
theorem Vn:∀(ks ms:List Nat)(c j k m:Nat),ks[j]? = some k->ms[j]? = some m->(trip c ks ms)[j]? = some (k,m,c+iP (ks.take j))
 |[],_,c,j,k,m,h,_=>by simp at h
 |_::_,[],c,j,k,m,_,h=>by simp at h
 |k0::ks,m0::ms,c,0,k,m,h1,h2=>by simp at h1 h2;subst h1;subst h2;simp[trip,iP]
 |k0::ks,m0::ms,c,j+1,k,m,h1,h2=>by simp only[zH]at h1 h2;simp only[trip,zH,List.take_succ_cons,iP];rw[Vn ks ms _ j k m h1 h2];simp only[Nat.add_assoc]
def xQ(i k:Nat):List (Nat×Nat)->Bool
 |[]=>false|p::l=>(Nat.beq i p.1&&Nat.beq k p.2)||xQ i k l
theorem ZU{i k:Nat}:∀{l:List (Nat×Nat)},xQ i k l=true->(i,k)∈l
 |[],h=>by simp[xQ]at h
 |p::l,h=>by simp only[xQ,Bool.or_eq_true,Bool.and_eq_true]at h;rcases h with⟨h1,h2⟩|h;rw[Nat.eq_of_beq_eq_true h1,Nat.eq_of_beq_eq_true h2];simp;exact List.mem_cons_of_mem _ (ZU h)
def HZ(pr:List (Nat×Nat))(i:Nat)(a:Nat×Nat×Nat)(k:Nat)(b:Nat×Nat×Nat):Bool :=
 cond (Nat.ble 2 b.1) (cond (Nat.ble 2 a.1) (cond (Nat.blt k i) (Nat.testBit a.2.1 k) true) (cond (Nat.beq a.1 1) (cond (Nat.blt k i) (Nat.testBit a.2.1 k||(Nat.beq b.2.2 a.2.2||xQ i k pr)) (Nat.testBit b.2.1 i||(Nat.beq a.2.2 (b.2.2+RE b.1)||xQ i k pr)))
    true))
  true
def Ix(ops:List Oper)(ks:List Nat)(pr:List (Nat×Nat)):Bool :=
 let L:=trip 0 ks (c7 ops [])
 allI (fun i a=>allI (fun k b=>HZ pr i a k b) 0 L) 0 L
def UC(T:Tb)(ks:List RK)(p:Nat×Nat):Prop:=match nth ks p.1,nth ks p.2 with
 |some r,some q=>cond (Nat.blt p.2 p.1) (bB T q.2.s r.2.tm r.2.o.op=some (r.2.u,q.2.s)) (bB T q.2.s' r.2.tm r.2.o.op=some (r.2.u,q.2.s'))|_,_=>False
def P5(T:Tb)(ks:List RK):List (Nat×Nat)->Prop
 |[]=>True|p::l=>UC T ks p/\P5 T ks l
theorem Cf{T:Tb}{ks:List RK}:∀{l:List (Nat×Nat)},P5 T ks l->∀p∈l,UC T ks p
 |[],_,p,hp=>by cases hp
 |q::l,h,p,hp=>by rcases zI.1 hp with rfl |hp;exact h.1;exact Cf h.2 p hp
theorem bn{ks:List Nat}:∀{q p:Nat},p<=q->q<=ks.length->iP (ks.take p)=iP (ks.take q)->∀(e k:Nat),p<=e->e<q->ks[e]? = some k->k≠3
 |q,p,hpq,hq,h,e,k,h1,h2,h3=>by
  have mono:∀(l:List Nat)(a b:Nat),a<=b->iP (l.take a)<=iP (l.take b):=by
   intro l;induction l with
   |nil=>intro a b _;simp[iP]|cons x l ih=>
    intro a b hab;cases a with
    |zero=>simp[iP]|succ a=>cases b with|zero=>omega|succ b=>simp only[List.take_succ_cons,iP];have:=ih a b (by omega);omega
  have succ:∀(l:List Nat)(a k:Nat),l[a]? = some k->iP (l.take (a+1))=iP (l.take a)+RE k:=by
   intro l;induction l with
   |nil=>intro a k h;simp at h|cons x l ih=>
    intro a k h;cases a with
    |zero=>simp at h;subst h;simp[iP]|succ a=>simp only[zH]at h;simp only[List.take_succ_cons,iP];rw[ih a k h];omega
  intro hk;have a1:=mono ks p e h1;have a2:=succ ks e k h3;have a3:=mono ks (e+1) q (by omega);rw[hk]at a2;have:RE 3=1:=rfl;omega
section
variable{C:PG}{T:Tb}(hT:iW C.prog T){n0:Nat}{Q:Exit->List U->Sg->Prop}{tm:List U}{σ:Sg}
include hT
theorem WPU.drawE {id : Nat} {ops : Array Oper} (pr : List (Nat × Nat)) (hst : ES ops.toList = true)
    (h:RH C.prog T ops.toList ops.toList tm σ [] (fun ks tm' σ'=> Ix ops.toList (ks.reverse.map (·.1)) pr=true/\P5 T ks.reverse pr/\Q .normal tm' σ')):WPU C n0 (.region id ops true) tm σ Q:=by
  obtain⟨rs,tm', σ',⟨ks,hks,hkk,hfl,hpr,hQ⟩,g2,g3,g4,g5⟩:=JH _ _ _ _ (RH.rd h);simp only[List.append_nil,List.reverse_reverse]at hfl hpr;have htr:XI C.prog T ops.toList tm σ rs tm' σ':=⟨g2,g3,g4,fun i r hr=> by obtain⟨a,b,c,d,_⟩:=g5 i r hr;exact⟨a,b,c,d⟩⟩;have same : ∀(p q:Nat),p<=q->q<=rs.length->(∀(e:Nat)(r:cT),p<=e->e<q->rs[e]? = some r->r.mv=false)->dR rs σ' p=dR rs σ' q:=by
    intro p q hpq hq hno;induction q with
    | zero => have : p = 0 := by omega
              rw[this]
    |succ q ih=>
      rcases Nat.lt_or_ge q p with h |h;have:p=q+1:=by omega
      rw[this];rw[ih h (by omega) fun e r h1 h2 h3=> hno e r h1 (by omega) h3];have hr:rs[q]? = some rs[q]:=by simp[show q<rs.length by omega]
      obtain⟨_,_,k3,_,k5,_⟩:=g5 q _ hr;rw[k3,k5 (hno q _ h (zN _) hr)];simp[dR,hr]
  have hlen:ks.length=rs.length:=by rw[<-hks];simp
  have at_ : ∀(i:Nat)(r:cT),rs[i]? = some r->∃k,ks[i]? = some (k,r)/\kindOk T ops.toList (k,r):=by intro i r hr;rw[<-hks]at hr;simp only[List.getElem?_map]at hr;rcases hk:ks[i]? with _|x;rw[hk]at hr;simp at hr;obtain⟨k,r'⟩:=x;rw[hk]at hr;simp at hr;subst hr;exact⟨k,rfl,hkk _ (zX hk)⟩
  have trp : ∀(i k:Nat)(r:cT),ks[i]? = some (k,r)->∃m,(c7 ops.toList [])[i]? = some m/\(trip 0 (ks.map (·.1)) (c7 ops.toList []))[i]? = some (k,m,iP ((ks.map (·.1)).take i)):=by
    intro i k r hk;obtain⟨m1,_,_⟩:=Mz ops.toList [];have hi:i<ops.toList.length:=by rw[<-g2, <-hlen];exact(zG.1 hk).1
    have hm:i<(c7 ops.toList []).length:=by rw[m1];simpa using hi
    refine⟨(c7 ops.toList [])[i],by simp[hm], ?_⟩;have:=Vn (ks.map (·.1)) (c7 ops.toList []) 0 i k _ (by simp[hk]) (show(c7 ops.toList [])[i]? = some (c7 ops.toList [])[i] by simp[hm])
    rwa [Nat.zero_add]at this
  have chk : ∀ (i k ki kk : Nat) (r q : cT), ks[i]? = some (ki, r) -> ks[k]? = some (kk, q) -> ∃ mi mk, (c7 ops.toList [])[i]? = some mi /\ (c7 ops.toList [])[k]? = some mk /\
      HZ pr i (ki,mi,iP ((ks.map (·.1)).take i)) k (kk,mk,iP ((ks.map (·.1)).take k))=true:=by
    intro i k ki kk r q hi hk;obtain⟨mi,e1,e2⟩:=trp i ki r hi;obtain⟨mk,e3,e4⟩:=trp k kk q hk;refine⟨mi,mk,e1,e3, ?_⟩;have h1:=ZW hfl e2;have h2:=ZW h1 e4;simpa using h2
  have nomv : ∀(p q:Nat),p<=q->q<=rs.length->iP ((ks.map (·.1)).take p)=iP ((ks.map (·.1)).take q)->dR rs σ' p=dR rs σ' q:=by
    intro p q hpq hq hc;refine same p q hpq hq fun e r h1 h2 h3=> ?_;obtain⟨k,hk,hkd⟩:=at_ e r h3;have:=bn hpq (by simp;omega) hc e k h1 h2 (by simp[hk]);rcases hkd with h |h |h |h
    exact h.2.2.2;exact h.2.2;exact h.2.2;exact absurd h.1 this
  have kact : ∀(i:Nat)(r:cT),rs[i]? = some r->r.act=true->∃k,ks[i]? = some (k,r)/\Nat.ble 2 k=true:=by intro i r hr ha;obtain⟨k,hk,hkd⟩:=at_ i r hr;refine⟨k,hk, ?_⟩;rcases hkd with h |h |h |h;have:=h.2.2.1;simp only[]at this;rw[ha]at this;cases this;have:=h.2.1;simp only[]at this;rw[ha]at this;cases this;have:=h.1;simp only[]at this;subst this;rfl;have:=h.1;simp only[]at this;subst this;rfl
  have kqu : ∀(i:Nat)(r:cT),rs[i]? = some r->r.act=false->bW ops.toList r.tm r.o=some true->bB T r.s r.tm r.o.op=some (r.u,r.s')->ks[i]? = some (1,r):=by intro i r hr ha hw hl;obtain⟨k,hk,hkd⟩:=at_ i r hr;rcases hkd with h |h |h |h;rcases h.2.1 with h' |h';simp only[]at h';rw[hw]at h';cases h';exact absurd hl h';have:=h.1;simp only[]at this;subst this;exact hk;have:=h.2.1;simp only[]at this;rw[ha]at this;cases this;have:=h.2.1;simp only[]at this;rw[ha]at this;cases this
  have succ : ∀(l:List Nat)(a k:Nat),l[a]? = some k->iP (l.take (a+1))=iP (l.take a)+RE k:=by
    intro l;induction l with
    |nil=> intro a k h;simp at h|cons x l ih=>
      intro a k h;cases a with
      |zero=> simp at h;subst h;simp[iP]|succ a=> simp only[zH]at h;simp only[List.take_succ_cons,iP];rw[ih a k h];omega
  refine WPU.drawn hT hst htr ⟨fun i k r q hr hq ha hb hlt=> ?_,fun i k r q hr hq ha hw hl hb hlt=> ?_,fun i k r q hr hq ha hw hl hb hlt=> ?_⟩ (fun i r hr h=> (g5 i r hr).2.2.2.2.2 h) hQ;obtain⟨ki,h1,h2⟩:=kact i r hr ha;obtain⟨kk,h3,h4⟩:=kact k q hq hb;obtain⟨mi,mk,e1,e2,e3⟩:=chk i k ki kk r q h1 h3;simp only[HZ,h2,h4,zC,lX hlt]at e3;exact⟨mi,e1,e3⟩;have h1:=kqu i r hr ha hw hl;obtain⟨kk,h3,h4⟩:=kact k q hq hb;obtain⟨mi,mk,e1,e2,e3⟩:=chk i k 1 kk r q h1 h3;have rK:Nat.ble 2 1=false:=rfl;have nJ:Nat.beq 1 1=true:=rfl;simp only[HZ,rK,nJ,h4,zC,zD,lX hlt,Bool.or_eq_true]at e3;rcases e3 with e3 |e3 |e3;exact .inl ⟨mi,e1,e3⟩;have:=nomv k i (by omega) (by have:=(zG.1 hr).1;omega) (Nat.eq_of_beq_eq_true e3);exact .inr (.inl (by simpa[dR,hr,hq]using this));have:=Cf hpr _ (ZU e3);simp only[UC,gG,h1,h3,lX hlt,zC]at this;exact .inr (.inr this);have h1:=kqu i r hr ha hw hl;obtain⟨kk,h3,h4⟩:=kact k q hq hb;obtain⟨mi,mk,e1,e2,e3⟩:=chk i k 1 kk r q h1 h3;have rK:Nat.ble 2 1=false:=rfl;have nJ:Nat.beq 1 1=true:=rfl;simp only[HZ,rK,nJ,h4,zC,zD,A0 (show ¬ k<i by omega),Bool.or_eq_true]at e3;rcases e3 with e3 |e3 |e3;exact .inl ⟨mk,e2,e3⟩;have hc:iP ((ks.map (·.1)).take i)=iP ((ks.map (·.1)).take (k+1)):=by rw[succ _ k kk (by simp[h3])];exact Nat.eq_of_beq_eq_true e3
  have:=nomv i (k+1) (by omega) (by have:=(zG.1 hq).1;omega) hc;have h2:=(htr.all k q hq).2.2.1;rw[h2]at this;exact .inr (.inl (by simpa[dR,hr]using this.symm));have:=Cf hpr _ (ZU e3);simp only[UC,gG,h1,h3,A0 (show ¬ k<i by omega),zD]at this;exact .inr (.inr this)
end
theorem RH.call{P:Program}{T:Tb}{ops r:List Oper}{o:Oper}{tm:List U}{σ:Sg}{acc:List RK}{K:List RK->List U->Sg->Prop}{f:FuncId}{args:List U}{u:U}(hw:bW ops tm o=some true)(hc:i9 T tm o.op=some (f,args))(hev:aY P f args σ (fun u' σ'=>u'=u/\σ'=σ))
  (h:RH P T ops r (d5 tm o.dst u) σ ((2,⟨tm,o,u,true,false,σ,σ⟩)::acc) K):RH P T ops (o::r) tm σ acc K:=.inr (.inr (.inl ⟨hw,f,args,u,hc,hev,h⟩))
theorem RH.callM{P:Program}{T:Tb}{ops r:List Oper}{o:Oper}{tm:List U}{σ σ1:Sg}{acc:List RK}{K:List RK->List U->Sg->Prop}{f:FuncId}{args:List U}{u:U}(hw:bW ops tm o=some true)(hc:i9 T tm o.op=some (f,args))(hev:aY P f args σ (fun u' σ'=>u'=u/\σ'=σ1))
  (h:RH P T ops r (d5 tm o.dst u) σ1 ((3,⟨tm,o,u,true,true,σ,σ1⟩)::acc) K):RH P T ops (o::r) tm σ acc K:=.inr (.inr (.inr (.inl ⟨hw,f,args,u,σ1,hc,hev,h⟩)))
mutual
def rU(π:Nat->Nat):U->U
 |.ptr k st off=>.ptr (π k) st off|.sl k off n c=>.sl (π k) off n c
 |.vl k st off n=>.vl (π k) st off n|.map k=>.map (π k)
 |.iptr l=>.iptr (gJ π l)|.isl t l=>.isl t (sR π l)
 |.fn f a b=>.fn f (gJ π a) (gJ π b)|.agg l=>.agg (gJ π l)
 |.tup l=>.tup (gJ π l)|u=>u
def gJ(π:Nat->Nat):List U->List U
 |[]=>[]|u::l=>rU π u::gJ π l
def sR(π:Nat->Nat):List (List U)->List (List U)
 |[]=>[]|c::l=>gJ π c::sR π l
end
theorem xE(π:Nat->Nat):∀l,(gJ π l).length=l.length
 |[]=>rfl|u::l=>by simp[gJ,xE π l]
theorem UR(π:Nat->Nat):∀l,(sR π l).length=l.length
 |[]=>rfl|u::l=>by simp[sR,UR π l]
theorem Ex(π:Nat->Nat)(u:U):okC (rU π u)=okC u:=by cases u<;>simp[rU,okC]
theorem BC(π:Nat->Nat):∀l,okL (gJ π l)=okL l
 |[]=>rfl|u::l=>by simp[gJ,okL,Ex,BC π l]
structure N6(n:Nat)(π:Nat->Nat)(x y:Cx):Prop where
 ptr:∀k st off v,k<n->aA x (.ptr k st off) v->aA y (.ptr (π k) st off) v
 sl:∀k off m c v,k<n->aA x (.sl k off m c) v->aA y (.sl (π k) off m c) v
 vl:∀k st off m v,k<n->aA x (.vl k st off m) v->aA y (.vl (π k) st off m) v
 map:∀k v,k<n->aA x (.map k) v->aA y (.map (π k)) v
 imm:∀i row e,lk x.s.h i=some (.inl (row,e,1))->lk y.s.h i=some (.inl (row,e,1))
mutual
theorem aA.leaf{n:Nat}{π:Nat->Nat}{x y:Cx}(h:N6 n π x y):(u:U)->(v:Value)->aU n u->aA x u v->aA y (rU π u) v
 |.junk,v,_,_=>by simp[rU,aA]
 |.bool b,v,_,hr=>by simpa[rU,aA]using hr
 |.int k z,v,_,hr=>by simpa[rU,aA]using hr
 |.str l,v,_,hr=>by simpa[rU,aA]using hr
 |.nilp,v,_,hr=>by simpa[rU,aA]using hr
 |.ptr k st off,v,hb,hr=>h.ptr k st off v (by simpa[aU]using hb) hr|.iptr l,v,hb,hr=>by simp only[rU,aA]at*;obtain⟨i,off,row,e,h1,h2,h3,h4⟩:=hr;exact⟨i,off,row,e,h1,h.imm _ _ _ h2,c8.leaf h l _ (by simpa[aU]using hb) h3,by rw[BC];exact h4⟩
 |.nils,v,_,hr=>by simpa[rU,aA]using hr
 |.sl k off m c,v,hb,hr=>h.sl k off m c v (by simpa[aU]using hb) hr|.vl k st off m,v,hb,hr=>h.vl k st off m v (by simpa[aU]using hb) hr
 |.isl t l,v,hb,hr=>by simp only[rU,aA]at*;rcases hr with⟨rfl,hr⟩|⟨i,off,c,h1,h2,h3⟩;exact .inl ⟨rfl,hr⟩;rw[UR];refine .inr ⟨i,off,c,h1,h2,?_⟩;rcases h3 with rfl |⟨row,e,sz,g1,g2,g3⟩;exact .inl rfl;exact .inr ⟨row,e,sz,h.imm _ _ _ g1,fY.leaf h l _ (by simpa[aU]using hb) g2,g3⟩
 |.nilm,v,_,hr=>by simpa[rU,aA]using hr
 |.map k,v,hb,hr=>h.map k v (by simpa[aU]using hb) hr|.fn f a b,v,hb,hr=>by simp only[rU,aA]at*;obtain⟨va,vb,h1,h2,h3,h4,h5⟩:=hr;simp only[aU]at hb;exact⟨va,vb,h1,c8.leaf h a _ hb.1 h2,by rw[xE];exact h3,c8.leaf h b _ hb.2 h4,by rw[xE];exact h5⟩
 |.nilf,v,_,hr=>by simpa[rU,aA]using hr
 |.nili,v,_,hr=>by simpa[rU,aA]using hr
 |.agg l,v,hb,hr=>by simp only[rU,aA]at*;obtain⟨vs,h1,h2,h3,h4⟩:=hr;exact⟨vs,h1,c8.leaf h l _ (by simpa[aU]using hb) h2,by rw[xE];exact h3,by rw[BC];exact h4⟩
 |.tup l,v,hb,hr=>by simp only[rU,aA]at*;obtain⟨vs,h1,h2,h3⟩:=hr;exact⟨vs,h1,c8.leaf h l _ (by simpa[aU]using hb) h2,by rw[xE];exact h3⟩
theorem c8.leaf{n:Nat}{π:Nat->Nat}{x y:Cx}(h:N6 n π x y):(l:List U)->(vs:List Value)->aG n l->c8 x l vs->c8 y (gJ π l) vs
 |[],vs,_,_=>by simp[gJ,c8]
 |u::l,[],_,hr=>by simp[c8]at hr
 |u::l,v::vs,hb,hr=>by simp only[gJ,c8,aG]at*;exact⟨aA.leaf h u v hb.1 hr.1,c8.leaf h l vs hb.2 hr.2⟩
theorem fY.leaf{n sz:Nat}{π:Nat->Nat}{x y:Cx}(h:N6 n π x y):(l:List (List U))->(vs:List Value)->jV n l->fY x sz l vs->fY y sz (sR π l) vs
 |[],vs,_,_=>by simp[sR,fY]
 |c::l,vs,hb,hr=>by simp only[sR,fY,jV]at*;exact⟨by rw[xE];exact hr.1,by rw[BC];exact hr.2.1,c8.leaf h c vs hb.1 hr.2.2.1,fY.leaf h l _ hb.2 hr.2.2.2⟩
end
def rM(π:Nat->Nat)(e:ME):ME:=⟨rU π e.key,rU π e.val,e.born⟩
def rB(π:Nat->Nat):B->B
 |.row l e=>.row (gJ π l) e|.vec l e sz st=>.vec (gJ π l) e sz st
 |.map es cl=>.map (es.map (rM π)) cl
theorem Kg(π:Nat->Nat)(b:B):(rB π b).st=b.st:=by cases b<;>rfl
mutual
theorem ll{n:Nat}{π κ:Nat->Nat}(h:∀k,k<n->κ (π k)=k):(u:U)->aU n u->rU κ (rU π u)=u
 |.ptr k _ _,hb=>by simp only[aU]at hb;simp[rU,h k hb]
 |.sl k _ _ _,hb=>by simp only[aU]at hb;simp[rU,h k hb]
 |.vl k _ _ _,hb=>by simp only[aU]at hb;simp[rU,h k hb]
 |.map k,hb=>by simp only[aU]at hb;simp[rU,h k hb]
 |.iptr l,hb=>by simp only[aU]at hb;simp[rU,PB h l hb]
 |.isl t l,hb=>by simp only[aU]at hb;simp[rU,py h l hb]
 |.fn f a b,hb=>by simp only[aU]at hb;simp[rU,PB h a hb.1,PB h b hb.2]
 |.agg l,hb=>by simp only[aU]at hb;simp[rU,PB h l hb]
 |.tup l,hb=>by simp only[aU]at hb;simp[rU,PB h l hb]
 |.junk,_=>rfl|.bool _,_=>rfl
 |.int _ _,_=>rfl|.str _,_=>rfl
 |.nilp,_=>rfl|.nils,_=>rfl
 |.nilm,_=>rfl|.nilf,_=>rfl
 |.nili,_=>rfl
theorem PB{n:Nat}{π κ:Nat->Nat}(h:∀k,k<n->κ (π k)=k):(l:List U)->aG n l->gJ κ (gJ π l)=l
 |[],_=>rfl|u::l,hb=>by simp only[aG]at hb;simp[gJ,ll h u hb.1,PB h l hb.2]
theorem py{n:Nat}{π κ:Nat->Nat}(h:∀k,k<n->κ (π k)=k):(l:List (List U))->jV n l->sR κ (sR π l)=l
 |[],_=>rfl|c::l,hb=>by simp only[jV]at hb;simp[sR,PB h c hb.1,py h l hb.2]
end
theorem aX.leaf{n:Nat}{π:Nat->Nat}{x y:Cx}(h:N6 n π x y){l:List U}{vs:List Value}(hb:aG n l)(hr:aX x l vs):aX y (gJ π l) vs:=⟨c8.leaf h l vs hb hr.1,by rw[xE];exact hr.2⟩
theorem lO.leaf{n:Nat}{π:Nat->Nat}{x y:Cx}(h:N6 n π x y){k j:Nat}{b:B}(hb:kH n b)(hρ:y.ρ j=x.ρ k)(hl:∀i c,x.ρ k=some i->lk x.s.h i=some c->lk y.s.h i=some c)(hB:lO x k b):lO y j (rB π b):=by
 cases b with
 |row l e=>obtain⟨k1,i,l',e1,e2,e3⟩:=hB;exact⟨by rw[BC];exact k1,i,l',by rw[hρ,e1],hl _ _ e1 e2,aX.leaf h hb e3⟩
 |vec l e sz st=>obtain⟨k1,k2,h3⟩:=hB;refine⟨by rw[BC];exact k1,k2,?_⟩;rcases h3 with⟨rfl,h4⟩|⟨i,l',e1,e2,e3⟩;exact .inl ⟨rfl,by rw[hρ,h4]⟩;exact .inr ⟨i,l',by rw[hρ,e1],hl _ _ e1 e2,aX.leaf h hb e3⟩
 |map es cl=>obtain⟨i,es',e1,e2,e3,e4⟩:=hB;refine⟨i,es',by rw[hρ,e1],hl _ _ e1 e2,by simpa using e3,fun j e he=>?_⟩;simp only[List.getElem?_map]at he;rcases hj:es[j]? with _|e0;rw[hj]at he;cases he;rw[hj]at he;simp only[zM,zA]at he;subst he;obtain⟨v,q1,q2,q3,q4⟩:=e4 j e0 hj;have hbe:=hb e0 (zX hj);exact⟨v,q1,aA.leaf h _ _ hbe.1 q2,aA.leaf h _ _ hbe.2 q3,q4⟩
structure P2(n:Nat)(π:Nat->Nat)(x y:Cx):Prop where
 ptr:∀k st off v,k<n->aA x (.ptr (π k) st off) v->aA y (.ptr k st off) v
 sl:∀k off m c v,k<n->aA x (.sl (π k) off m c) v->aA y (.sl k off m c) v
 vl:∀k st off m v,k<n->aA x (.vl (π k) st off m) v->aA y (.vl k st off m) v
 map:∀k v,k<n->aA x (.map (π k)) v->aA y (.map k) v
 imm:∀i row e,lk x.s.h i=some (.inl (row,e,1))->lk y.s.h i=some (.inl (row,e,1))
mutual
theorem aA.unleaf{n:Nat}{π:Nat->Nat}{x y:Cx}(h:P2 n π x y):(u:U)->(v:Value)->aU n u->aA x (rU π u) v->aA y u v
 |.junk,v,_,_=>by simp[aA]
 |.bool b,v,_,hr=>by simpa[rU,aA]using hr
 |.int k z,v,_,hr=>by simpa[rU,aA]using hr
 |.str l,v,_,hr=>by simpa[rU,aA]using hr
 |.nilp,v,_,hr=>by simpa[rU,aA]using hr
 |.ptr k st off,v,hb,hr=>h.ptr k st off v (by simpa[aU]using hb) hr|.iptr l,v,hb,hr=>by simp only[rU,aA]at*;obtain⟨i,off,row,e,h1,h2,h3,h4⟩:=hr;exact⟨i,off,row,e,h1,h.imm _ _ _ h2,c8.unleaf h l _ (by simpa[aU]using hb) h3,by rw[BC]at h4;exact h4⟩
 |.nils,v,_,hr=>by simpa[rU,aA]using hr
 |.sl k off m c,v,hb,hr=>h.sl k off m c v (by simpa[aU]using hb) hr|.vl k st off m,v,hb,hr=>h.vl k st off m v (by simpa[aU]using hb) hr
 |.isl t l,v,hb,hr=>by simp only[rU,aA]at*;rcases hr with⟨h0,hr⟩|⟨i,off,c,h1,h2,h3⟩;exact .inl ⟨List.eq_nil_of_length_eq_zero (by rw[<-UR π,h0];rfl),hr⟩;rw[UR]at h1 h2;refine .inr ⟨i,off,c,h1,h2,?_⟩;rcases h3 with h3 |⟨row,e,sz,g1,g2,g3⟩;exact .inl (List.eq_nil_of_length_eq_zero (by rw[<-UR π,h3];rfl));rw[UR]at g3;exact .inr ⟨row,e,sz,h.imm _ _ _ g1,fY.unleaf h l _ (by simpa[aU]using hb) g2,g3⟩
 |.nilm,v,_,hr=>by simpa[rU,aA]using hr
 |.map k,v,hb,hr=>h.map k v (by simpa[aU]using hb) hr|.fn f a b,v,hb,hr=>by simp only[rU,aA]at*;obtain⟨va,vb,h1,h2,h3,h4,h5⟩:=hr;simp only[aU]at hb;rw[xE]at h3 h5;exact⟨va,vb,h1,c8.unleaf h a _ hb.1 h2,h3,c8.unleaf h b _ hb.2 h4,h5⟩
 |.nilf,v,_,hr=>by simpa[rU,aA]using hr
 |.nili,v,_,hr=>by simpa[rU,aA]using hr
 |.agg l,v,hb,hr=>by simp only[rU,aA]at*;obtain⟨vs,h1,h2,h3,h4⟩:=hr;rw[xE]at h3;rw[BC]at h4;exact⟨vs,h1,c8.unleaf h l _ (by simpa[aU]using hb) h2,h3,h4⟩
 |.tup l,v,hb,hr=>by simp only[rU,aA]at*;obtain⟨vs,h1,h2,h3⟩:=hr;rw[xE]at h3;exact⟨vs,h1,c8.unleaf h l _ (by simpa[aU]using hb) h2,h3⟩
theorem c8.unleaf{n:Nat}{π:Nat->Nat}{x y:Cx}(h:P2 n π x y):(l:List U)->(vs:List Value)->aG n l->c8 x (gJ π l) vs->c8 y l vs
 |[],vs,_,_=>by simp[c8]
 |u::l,[],_,hr=>by simp[gJ,c8]at hr
 |u::l,v::vs,hb,hr=>by simp only[gJ,c8,aG]at*;exact⟨aA.unleaf h u v hb.1 hr.1,c8.unleaf h l vs hb.2 hr.2⟩
theorem fY.unleaf{n sz:Nat}{π:Nat->Nat}{x y:Cx}(h:P2 n π x y):(l:List (List U))->(vs:List Value)->jV n l->fY x sz (sR π l) vs->fY y sz l vs
 |[],vs,_,_=>by simp[fY]
 |c::l,vs,hb,hr=>by simp only[sR,fY,jV]at*;exact⟨by rw[<-xE π];exact hr.1,by rw[<-BC π];exact hr.2.1,c8.unleaf h c vs hb.1 hr.2.2.1,fY.unleaf h l _ hb.2 hr.2.2.2⟩
end
theorem aX.unleaf{n:Nat}{π:Nat->Nat}{x y:Cx}(h:P2 n π x y){l:List U}{vs:List Value}(hb:aG n l)(hr:aX x (gJ π l) vs):aX y l vs:=⟨c8.unleaf h l vs hb hr.1,by rw[<-xE π];exact hr.2⟩
theorem lO.unleaf{n:Nat}{π:Nat->Nat}{x y:Cx}(h:P2 n π x y){k j:Nat}{b:B}(hb:kH n b)(hρ:y.ρ j=x.ρ k)(hl:∀i c,x.ρ k=some i->lk x.s.h i=some c->lk y.s.h i=some c)(hB:lO x k (rB π b)):lO y j b:=by
 cases b with
 |row l e=>obtain⟨k1,i,l',e1,e2,e3⟩:=hB;exact⟨by rw[BC]at k1;exact k1,i,l',by rw[hρ,e1],hl _ _ e1 e2,aX.unleaf h hb e3⟩
 |vec l e sz st=>obtain⟨k1,k2,h3⟩:=hB;rw[BC]at k1;refine⟨k1,k2,?_⟩;rcases h3 with⟨h3,h4⟩|⟨i,l',e1,e2,e3⟩;exact .inl ⟨List.eq_nil_of_length_eq_zero (by rw[<-xE π,h3];rfl),by rw[hρ,h4]⟩;exact .inr ⟨i,l',by rw[hρ,e1],hl _ _ e1 e2,aX.unleaf h hb e3⟩
 |map es cl=>
  obtain⟨i,es',e1,e2,e3,e4⟩:=hB;refine⟨i,es',by rw[hρ,e1],hl _ _ e1 e2,by simpa using e3,fun j e he=>?_⟩;have hj:(es.map (rM π))[j]? = some (rM π e):=by simp[he]
  obtain⟨v,q1,q2,q3,q4⟩:=e4 j _ hj;have hbe:=hb e (zX he);exact⟨v,q1,aA.unleaf h _ _ hbe.1 q2,aA.unleaf h _ _ hbe.2 q3,q4⟩
def ix:List Nat->Nat->Nat->Option Nat
 |[],_,_=>none|a::l,k,i=>cond (Nat.beq a k) (some i) (ix l k (i+1))
def nm:List Nat->Nat->Nat->Nat
 |[],nx,j=>nx+j|a::_,_,0=>a
 |_::l,nx,j+1=>nm l nx j
theorem BD:∀(ns:List Nat)(nx j:Nat),j<ns.length->∃h:j<ns.length,nm ns nx j=ns[j]
 |a::l,nx,0,h=>⟨h,rfl⟩|a::l,nx,j+1,h=>by obtain⟨h',e⟩:=BD l nx j (by simpa using h);exact⟨h,by simp[nm,e]⟩
theorem EE:∀(ns:List Nat)(nx j:Nat),ns.length<=j->nm ns nx j=nx+(j-ns.length)
 |[],nx,j,_=>by simp[nm]
 |a::l,nx,0,h=>by simp at h
 |a::l,nx,j+1,h=>by simp only[nm,EE l nx j (by simpa using h)];simp
theorem kh{ns:List Nat}{nx:Nat}(hnd:ns.Nodup)(hlt:∀k∈ns,k<nx){i j:Nat}(h:nm ns nx i=nm ns nx j):i=j:=by
 by_cases hi:i<ns.length;obtain⟨_,e1⟩:=BD ns nx i hi;by_cases hj:j<ns.length;obtain⟨_,e2⟩:=BD ns nx j hj;rw[e1,e2]at h;exact(List.getElem_inj hnd).1 h;rw[e1,EE ns nx j (by omega)]at h;have:=hlt _ (List.getElem_mem hi);omega;rw[EE ns nx i (by omega)]at h;by_cases hj:j<ns.length;obtain⟨_,e2⟩:=BD ns nx j hj;rw[e2]at h;have:=hlt _ (List.getElem_mem hj);omega;rw[EE ns nx j (by omega)]at h;omega
def DU:List Nat->Nat->Bool
 |[],_=>false|a::l,k=>cond (Nat.beq a k) true (DU l k)
theorem Mq:∀(l:List Nat)(k:Nat),DU l k=true↔k∈l
 |[],k=>by simp[DU]
 |a::l,k=>by simp only[DU,beq_eq,zI];by_cases e:a=k;simp[e];have:¬ k=a:=fun h=>e h.symm;simp[e,this,Mq l k]
def tR(ns:List Nat)(nx:Nat):List (Nat×B)->List (Nat×B)
 |[]=>[]|(j,b)::h=>(nm ns nx j,rB (nm ns nx) b)::tR ns nx h
def BG(ns:List Nat):List (Nat×B)->List (Nat×B)
 |[]=>[]|(k,b)::h=>cond (DU ns k) (BG ns h) ((k,b)::BG ns h)
theorem Wb{ns:List Nat}{nx:Nat}(hi:∀i j,nm ns nx i=nm ns nx j->i=j):∀(h:List (Nat×B))(j:Nat),gt (tR ns nx h) (nm ns nx j)=(gt h j).map (rB (nm ns nx))
 |[],j=>by simp[tR,gt]
 |(i,b)::h,j=>by simp only[tR,d8,Wb hi h j];by_cases e:i=j;simp[e];have:¬ nm ns nx i=nm ns nx j:=fun h=>e (hi _ _ h);simp[e,this]
theorem qmv{ns:List Nat}{nx:Nat}:∀(h:List (Nat×B))(k:Nat),(∀j,nm ns nx j≠k)->gt (tR ns nx h) k=none
 |[],k,_=>by simp[tR,gt]
 |(i,b)::h,k,hk=>by simp[tR,d8,hk i,qmv h k hk]
theorem Ah(ns:List Nat):∀(h:List (Nat×B))(k:Nat),gt (BG ns h) k=if k∈ns then none else gt h k
 |[],k=>by simp[BG,gt]
 |(j,b)::h,k=>by
  have ih:=Ah ns h k;simp only[BG];cases hj:DU ns j with
  |true=>have hj':=(Mq ns j).1 hj;simp only[zC,ih,d8];by_cases e:j=k;subst e;simp[hj'];simp[e]|false=>
   have hj':¬ j∈ns:=fun h=>by rw[(Mq ns j).2 h]at hj;cases hj
   simp only[zD,d8,ih];by_cases e:j=k;subst e;simp[hj'];simp[e]
theorem Yb(a b:List (Nat×B))(k:Nat):gt (a++b) k=match gt a k with |some c=>some c |none=>gt b k:=by
 induction a with|nil=>simp[gt]|cons p a ih=>obtain⟨j,c⟩:=p;simp only[List.cons_append,d8,ih];by_cases e:j=k<;>simp[e]
def Hk(ns:List Nat)(σ IR:Sg):Sg:=⟨tR ns σ.nx IR.h++BG ns σ.h,σ.nx+(IR.nx-ns.length)⟩
mutual
theorem Vd:(u:U)->rU id u=u
 |.ptr k _ _=>by simp[rU]
 |.sl k _ _ _=>by simp[rU]
 |.vl k _ _ _=>by simp[rU]
 |.map k=>by simp[rU]
 |.iptr l=>by simp[rU,N3 l]
 |.isl t l=>by simp[rU,Z7 l]
 |.fn f a b=>by simp[rU,N3 a,N3 b]
 |.agg l=>by simp[rU,N3 l]
 |.tup l=>by simp[rU,N3 l]
 |.junk=>rfl|.bool _=>rfl
 |.int _ _=>rfl|.str _=>rfl
 |.nilp=>rfl|.nils=>rfl
 |.nilm=>rfl|.nilf=>rfl
 |.nili=>rfl
theorem N3:(l:List U)->gJ id l=l
 |[]=>rfl|u::l=>by simp[gJ,Vd u,N3 l]
theorem Z7:(l:List (List U))->sR id l=l
 |[]=>rfl|c::l=>by simp[sR,N3 c,Z7 l]
end
theorem lO.keep{x y:Cx}{k:Nat}{b:B}(h:lO x k b)(hm:Ke x.σ.nx x y)(hρ:y.ρ k=x.ρ k)(hl:∀i c,x.ρ k=some i->lk x.s.h i=some c->lk y.s.h i=some c):lO y k b:=by
 cases b with
 |row l e=>obtain⟨k1,i,l',e1,e2,e3⟩:=h;exact⟨k1,i,l',by rw[hρ,e1],hl _ _ e1 e2,hm.E e3.bel e3⟩
 |vec l e sz st=>obtain⟨k1,k2,h3⟩:=h;refine⟨k1,k2,?_⟩;rcases h3 with⟨h3,h4⟩|⟨i,l',e1,e2,e3⟩;exact .inl ⟨h3,by rw[hρ,h4]⟩;exact .inr ⟨i,l',by rw[hρ,e1],hl _ _ e1 e2,hm.E e3.bel e3⟩
 |map es cl=>obtain⟨i,es',e1,e2,e3⟩:=h;refine⟨i,es',by rw[hρ,e1],hl _ _ e1 e2,e3.1,fun j e he=>?_⟩;obtain⟨v,q1,q2,q3,q4⟩:=e3.2 j e he;exact⟨v,q1,hm _ _ (aA.bel _ _ q2) q2,hm _ _ (aA.bel _ _ q3) q3,q4⟩
theorem lO.row_at{x:Cx}{k i:Nat}{b:B}(h:lO x k b)(hi:x.ρ k=some i):∃c,lk x.s.h i=some c:=by
 cases b with
 |row l e=>obtain⟨_,i',l',e1,e2,_⟩:=h;rw[hi]at e1;cases e1;exact⟨_,e2⟩
 |vec l e sz st=>obtain⟨_,_,h3⟩:=h;rcases h3 with⟨_,h4⟩|⟨i',l',e1,e2,_⟩;rw[hi]at h4;cases h4;rw[hi]at e1;cases e1;exact⟨_,e2⟩
 |map es cl=>obtain⟨i',es',e1,e2,_⟩:=h;rw[hi]at e1;cases e1;exact⟨_,e2⟩
theorem aY.frame{P:Program}{f:FuncId}{args:List U}{h0:List (Nat×B)}{R:U->Sg->Prop}(ns:List Nat)(h:aY P f args ⟨h0,ns.length⟩ R)(σ:Sg)(hnd:ns.Nodup)(hlt:∀k∈ns,k<σ.nx)(ha:aG ns.length args)
  (hsub:∀k b,gt h0 k=some b->k<ns.length/\kH ns.length b/\gt σ.h (nm ns σ.nx k)=some (rB (nm ns σ.nx) b)):
  aY P f (gJ (nm ns σ.nx) args) σ (fun u σ'=>∃u0 IR,R u0 IR/\ns.length<=IR.nx/\u=rU (nm ns σ.nx) u0/\σ'=Hk ns σ IR):=fun F x vs m w cargs hx hh hfr he hfit hargs=>by
 subst hx;have hinj:∀i j,nm ns x.σ.nx i=nm ns x.σ.nx j->i=j:=fun i j h=>kh hnd hlt h;have hmem:∀k,k∈ns->∃j,j<ns.length/\nm ns x.σ.nx j=k:=fun k hk=>by obtain⟨j,hj,e⟩:=List.getElem_of_mem hk;exact⟨j,hj,by rw[(BD ns x.σ.nx j hj).2,e]⟩
 have hnlt:∀j,j<ns.length->nm ns x.σ.nx j<x.σ.nx:=fun j hj=>by rw[(BD ns x.σ.nx j hj).2];exact hlt _ (List.getElem_mem hj)
 let x0:Cx:=⟨fun k=>if k<ns.length then x.ρ (nm ns x.σ.nx k)else none,⟨h0,ns.length⟩,x.s⟩
 have xV:∀k,k<ns.length->x0.ρ k=x.ρ (nm ns x.σ.nx k):=fun k hk=>by simp[x0,hk]
 have href:∀k st (p:Option Nat->Prop),k<ns.length->Ref x (nm ns x.σ.nx k) st p->Ref x0 k st p:=fun k st p hk ⟨_,h2⟩=>⟨hk,fun b hb=>by obtain⟨_,_,hg⟩:=hsub k b hb;have:=h2 _ hg;rw[Kg]at this;rw[xV k hk];exact this⟩;have hun:P2 ns.length (nm ns x.σ.nx) x x0:={
  ptr:=fun k st off v hk hr=>by simp only[aA]at*;exact⟨hr.1,href k st _ hk hr.2⟩
  sl:=fun k off m c v hk hr=>by simp only[aA]at*;exact⟨hr.1,href k 0 _ hk hr.2⟩
  map:=fun k v hk hr=>by simp only[aA]at*;exact⟨hr.1,href k 0 _ hk hr.2⟩
  vl:=fun k st off m v hk hr=>by
   simp only[aA]at*;obtain⟨g1,g2,g3⟩:=hr;refine⟨g1,hk,fun b hb=>?_⟩;obtain⟨_,_,hg⟩:=hsub k b hb;obtain⟨g4,g5⟩:=g3 _ hg;rw[Kg]at g4 g5;refine⟨g4,fun e=>?_⟩;obtain⟨l,e',sz,e7,e8⟩:=g5 e;rw[xV k hk];cases b with
   |vec l0 e0 Z3 st0=>simp only[rB,B.vec.injEq]at e7;obtain⟨_,rfl,rfl,rfl⟩:=e7;exact⟨l0,_,_,rfl,e8⟩
   |row _ _=>simp[rB]at e7|map _ _=>simp[rB]at e7
  imm:=fun i row e hl=>hl }
 have zp:iC x0:=⟨fun k b hb=>by obtain⟨h1,h2,h3⟩:=hsub k b hb;exact⟨h1,lO.unleaf hun h2 (xV k h1) (fun i c _ hl=>hl) (hh.ok _ _ h3).2⟩,
  fun k k' b b' i hb hb' hi hi'=>by obtain⟨h1,h2,h3⟩:=hsub k b hb;obtain⟨sJ,AF,S0⟩:=hsub k' b' hb';rw[xV k h1]at hi;rw[xV k' sJ]at hi';exact hinj _ _ (hh.inj _ _ _ _ i h3 S0 hi hi'),
  hh.bd⟩
 let F0:Nat->iZ->Prop:=fun i b=>lk x.s.h i=some b/\∀k c,gt h0 k=some c->x.ρ (nm ns x.σ.nx k)≠some i
 have zr:Fr F0 x0:=fun i b J=>⟨J.1,fun k c hc=>by rw[xV k (hsub k c hc).1];exact J.2 k c hc⟩;refine(h F0 x0 vs m w cargs rfl zp zr (aX.unleaf hun ha he) hfit hargs).mono ?_;rintro e w₁ ⟨y0,aC,u0,v,cv,rfl,hR,hadv,hrel,hhy,hfry,hru,hke,hnx⟩;have hnx':ns.length<=y0.σ.nx:=hnx;have himg:∀k,k<x.σ.nx->¬ k∈ns->∀j,nm ns x.σ.nx j≠k:=fun k hk hn j e=>by by_cases hj:j<ns.length;obtain⟨_,e1⟩:=BD ns x.σ.nx j hj;rw[e1]at e;exact hn (e ▸ List.getElem_mem hj);rw[EE ns x.σ.nx j (by omega)]at e;omega
 let inv:Nat->Option Nat:=fun k=>if k<x.σ.nx then ix ns k 0 else some (ns.length+(k-x.σ.nx))
 let y:Cx:=⟨fun k=>if k∈ns\/x.σ.nx<=k then(match inv k with |some j=>y0.ρ j |none=>none)else x.ρ k,Hk ns x.σ y0.σ,y0.s⟩
 have hixg:∀(l:List Nat)(j i:Nat),l.Nodup->(hj:j<l.length)->ix l l[j] i=some (i+j):=by
  intro l;induction l with
  |nil=>intro j i _ hj;simp at hj|cons a l ih=>
   intro j i hnd hj;cases j with
   |zero=>simp[ix,beq_eq]|succ j=>have hne:¬ a=l[j]'(by simpa using hj):=fun h=>(List.nodup_cons.1 hnd).1 (h ▸ List.getElem_mem _);simp only[List.getElem_cons_succ,ix,beq_eq,hne,yB,zD];rw[ih j (i+1) (List.nodup_cons.1 hnd).2 (by simpa using hj)];congr 1;omega
 have hinv:∀j,inv (nm ns x.σ.nx j)=some j:=fun j=>by
  by_cases hj:j<ns.length;have h1:=hnlt j hj;obtain⟨_,e1⟩:=BD ns x.σ.nx j hj;simp only[inv,h1,if_true];rw[e1,hixg ns j 0 hnd hj];simp;have e1:=EE ns x.σ.nx j (by omega);have h1:¬ nm ns x.σ.nx j<x.σ.nx:=by omega
  simp only[inv,h1,if_false,zA];omega
 have hρy:∀j,y.ρ (nm ns x.σ.nx j)=y0.ρ j:=fun j=>by
  have h1:nm ns x.σ.nx j∈ns\/x.σ.nx<=nm ns x.σ.nx j:=by by_cases hj:j<ns.length;obtain⟨_,e1⟩:=BD ns x.σ.nx j hj;exact .inl (by rw[e1];exact List.getElem_mem hj);rw[EE ns x.σ.nx j (by omega)];exact .inr (by omega)
  simp only[y,h1,if_true,hinv]
 have hρn:∀k,k<x.σ.nx->¬ k∈ns->y.ρ k=x.ρ k:=fun k hk hn=>by
  have h1:¬ (k∈ns\/x.σ.nx<=k):=by rintro(h |h);exact hn h;omega
  simp only[y,h1,if_false]
 have hgy:∀j,gt y.σ.h (nm ns x.σ.nx j)=(gt y0.σ.h j).map (rB (nm ns x.σ.nx)):=fun j=>by
  show gt (tR ns x.σ.nx y0.σ.h++BG ns x.σ.h) _=_;rw[Yb,Wb hinj];cases hg:gt y0.σ.h j with
  |some b=>rfl|none=>simp only[Option.map_none];rw[Ah];split;rfl;rename_i hn;rcases FK:gt x.σ.h (nm ns x.σ.nx j)with _|b;rfl;have:=(hh.ok _ _ FK).1;exact absurd rfl (himg _ this hn j)
 have hgn:∀k,k<x.σ.nx->¬ k∈ns->gt y.σ.h k=gt x.σ.h k:=fun k hk hn=>by show gt (tR ns x.σ.nx y0.σ.h++BG ns x.σ.h) _=_;rw[Yb,qmv _ _ (himg k hk hn),Ah,if_neg hn]
 have hcase:∀k b,gt y.σ.h k=some b->(∃j b0,k=nm ns x.σ.nx j/\gt y0.σ.h j=some b0/\b=rB (nm ns x.σ.nx) b0)\/(k<x.σ.nx/\¬ k∈ns/\gt x.σ.h k=some b):=fun k b hb=>by
  by_cases hk:∃j,nm ns x.σ.nx j=k;obtain⟨j,rfl⟩:=hk;rw[hgy]at hb;rcases hg:gt y0.σ.h j with _|b0;rw[hg]at hb;cases hb;rw[hg]at hb;simp at hb;exact .inl ⟨j,b0,rfl,hg,hb.symm⟩;have hk':∀j,nm ns x.σ.nx j≠k:=fun j e=>hk ⟨j,e⟩
  have hlt':k<x.σ.nx:=by rcases Nat.lt_or_ge k x.σ.nx with h |h;exact h;exact absurd (by rw[EE ns x.σ.nx _ (by omega)];omega) (hk' (ns.length+(k-x.σ.nx)))
  have hn:¬ k∈ns:=fun h=>by obtain⟨j,_,e⟩:=hmem k h;exact hk' j e
  rw[hgn k hlt' hn]at hb;exact .inr ⟨hlt',hn,hb⟩
 have hself:∀k,k<x.σ.nx->k∈ns\/¬ k∈ns:=fun k _=>Classical.em _;have hynx:y.σ.nx=x.σ.nx+(y0.σ.nx-ns.length):=rfl;have hnmlt:∀j,j<y0.σ.nx->nm ns x.σ.nx j<y.σ.nx:=fun j hj=>by rw[hynx];by_cases hj':j<ns.length;have:=hnlt j hj';omega;rw[EE ns x.σ.nx j (by omega)];omega
 have hrefy:∀k st (p:Option Nat->Prop),Ref y0 k st p->Ref y (nm ns x.σ.nx k) st p:=fun k st p ⟨h1,h2⟩=>⟨hnmlt k h1,fun b hb=>by rw[hgy]at hb;rcases hg:gt y0.σ.h k with _|b0;rw[hg]at hb;cases hb;rw[hg]at hb;simp only[zM,zA]at hb;subst hb;rw[Kg,hρy];exact h2 _ hg⟩;have hleaf:N6 y0.σ.nx (nm ns x.σ.nx) y0 y:={
  ptr:=fun k st off v _ hr=>by simp only[aA]at*;exact⟨hr.1,hrefy k st _ hr.2⟩
  sl:=fun k off m c v _ hr=>by simp only[aA]at*;exact⟨hr.1,hrefy k 0 _ hr.2⟩
  map:=fun k v _ hr=>by simp only[aA]at*;exact⟨hr.1,hrefy k 0 _ hr.2⟩
  vl:=fun k st off m v _ hr=>by simp only[aA]at*;obtain⟨g1,g2,g3⟩:=hr;refine⟨g1,hnmlt k g2,fun b hb=>?_⟩;rw[hgy]at hb;rcases hg:gt y0.σ.h k with _|b0;rw[hg]at hb;cases hb;rw[hg]at hb;simp only[zM,zA]at hb;subst hb;rw[Kg,hρy];obtain⟨g4,g5⟩:=g3 _ hg;refine⟨g4,fun e=>?_⟩;obtain⟨l,e',sz,rfl,e8⟩:=g5 e;exact⟨_,e',sz,rfl,e8⟩
  imm:=fun i row e hl=>hl }
 have himm:∀i row e,lk x.s.h i=some (.inl (row,e,1))->lk y.s.h i=some (.inl (row,e,1)):=fun i row e hl=>(hfry i _ ⟨hl,fun k c hc hρ=>(hh.ok _ _ (hsub k c hc).2.2).2.not1 hρ hl⟩).1;have hrefx:∀k st (p:Option Nat->Prop),¬ k∈ns->Ref x k st p->Ref y k st p:=fun k st p hn ⟨h1,h2⟩=>⟨by rw[hynx];omega,fun b hb=>by rw[hgn k h1 hn]at hb;rw[hρn k h1 hn];exact h2 b hb⟩;have hkeL:N6 x.σ.nx id x y:={
  ptr:=fun k st off v hk hr=>by by_cases hn:k∈ns;obtain⟨j,hj,rfl⟩:=hmem k hn;exact hleaf.ptr j st off v (by omega) (hke (.ptr j st off) v (by simpa[aU,x0]using hj) (hun.ptr j st off v hj hr));simp only[aA]at*;exact⟨hr.1,hrefx k st _ hn hr.2⟩
  sl:=fun k off m c v hk hr=>by by_cases hn:k∈ns;obtain⟨j,hj,rfl⟩:=hmem k hn;exact hleaf.sl j off m c v (by omega) (hke (.sl j off m c) v (by simpa[aU,x0]using hj) (hun.sl j off m c v hj hr));simp only[aA]at*;exact⟨hr.1,hrefx k 0 _ hn hr.2⟩
  map:=fun k v hk hr=>by by_cases hn:k∈ns;obtain⟨j,hj,rfl⟩:=hmem k hn;exact hleaf.map j v (by omega) (hke (.map j) v (by simpa[aU,x0]using hj) (hun.map j v hj hr));simp only[aA]at*;exact⟨hr.1,hrefx k 0 _ hn hr.2⟩
  vl:=fun k st off m v hk hr=>by by_cases hn:k∈ns;obtain⟨j,hj,rfl⟩:=hmem k hn;exact hleaf.vl j st off m v (by omega) (hke (.vl j st off m) v (by simpa[aU,x0]using hj) (hun.vl j st off m v hj hr));simp only[aA,id]at*;obtain⟨g1,g2,g3⟩:=hr;refine⟨g1,by rw[hynx];omega,fun b hb=>?_⟩;rw[hgn k g2 hn]at hb;rw[hρn k g2 hn];exact g3 b hb
  imm:=himm }
 have hid:∀u,rU id u=u/\True:=fun u=>⟨(Vd u),trivial⟩;have hkexy:Ke x.σ.nx x y:=fun u v hb hr=>by
  have:=aA.leaf hkeL u v hb hr
  rwa [(hid u).1]at this
 have hrowF:∀k b i c,gt x.σ.h k=some b->¬ k∈ns->x.ρ k=some i->lk x.s.h i=some c->F0 i c:=fun k b i c hb hn hi hl=>⟨hl,fun j d hd hρ=>by
  obtain⟨h1,_,h3⟩:=hsub j d hd;have:=hh.inj _ _ _ _ i h3 hb hρ hi;have h5:nm ns x.σ.nx j∈ns:=by rw[(BD ns x.σ.nx j h1).2];exact List.getElem_mem h1
  exact hn (this ▸ h5)⟩
 refine⟨y,aC,rU (nm ns x.σ.nx) u0,v,cv,rfl,⟨u0,y0.σ,hR,hnx',rfl,rfl⟩,hadv,hrel,⟨fun k b hb=>?_,fun k k' b b' i hb hb' hi hi'=>?_,hhy.bd⟩,fun i b J=>?_,aA.leaf hleaf u0 v (aA.bel u0 v hru) hru,hkexy,by rw[hynx];omega⟩;rcases hcase k b hb with⟨j,b0,rfl,hg,rfl⟩|⟨h1,h2,h3⟩;obtain⟨g1,g2⟩:=hhy.ok j b0 hg;exact⟨hnmlt j g1,lO.leaf hleaf (g2.belB) (hρy j) (fun i c _ hl=>hl) g2⟩;exact⟨by rw[hynx];omega,(hh.ok k b h3).2.keep hkexy (hρn k h1 h2) fun i c hi hl=>(hfry i c (hrowF k b i c h3 h2 hi hl)).1⟩;have mixed:∀k k' b b0 (j:Nat),k=nm ns x.σ.nx j->gt y0.σ.h j=some b0->y.ρ k=some i->k'<x.σ.nx->¬ k'∈ns->gt x.σ.h k'=some b->y.ρ k'=some i->False:=fun k k' b b0 j e hg hi h1 h2 h3 hi'=>by subst e;rw[hρy]at hi;rw[hρn k' h1 h2]at hi';obtain⟨c,hc⟩:=(hh.ok k' b h3).2.row_at hi';exact(hfry i c (hrowF k' b i c h3 h2 hi' hc)).2 j b0 hg hi
 rcases hcase k b hb with⟨j,b0,e1,hg,_⟩|⟨h1,h2,h3⟩;rcases hcase k' b' hb' with⟨j',jf,II,hg',_⟩|⟨sJ,AF,S0⟩;subst e1 II;rw[hρy]at hi hi';rw[hhy.inj j j' b0 jf i hg hg' hi hi'];exact(mixed k k' b' b0 j e1 hg hi sJ AF S0 hi').elim;rcases hcase k' b' hb' with⟨j',jf,II,hg',_⟩|⟨sJ,AF,S0⟩;exact(mixed k' k b jf j' II hg' hi' h1 h2 h3 hi).elim;rw[hρn k h1 h2]at hi;rw[hρn k' sJ AF]at hi';exact hh.inj k k' b b' i h3 S0 hi hi';obtain⟨h1,h2⟩:=hfr i b J;have hF0:F0 i b:=⟨h1,fun k c hc=>h2 _ _ (hsub k c hc).2.2⟩;refine⟨(hfry i b hF0).1,fun k c hc=>?_⟩;rcases hcase k c hc with⟨j,b0,rfl,hg,_⟩|⟨g1,g2,g3⟩;rw[hρy];exact(hfry i b hF0).2 j b0 hg;rw[hρn k g1 g2];exact h2 k c g3
def a7{α β:Type}(o:Option α)(k:α->Option β):Option β:=match o with
 |some a=>k a|none=>none
variable{α:Type}
variable{β:Type}
theorem a9{o:Option α}{k:α->Option β}{r:β}(h:a7 o k=some r):∃a,o=some a/\k a=some r:=by
 rcases o with _|a;cases h;exact⟨a,rfl,h⟩
@[simp] theorem aL{α β:Type}(a:α)(k:α->Option β):a7 (some a) k=k a:=rfl
@[simp] theorem Tf{α β:Type}(k:α->Option β):a7 none k=none:=rfl
theorem SU{c:Bool}{a b:Option β}{r:Option β}(h:c=true)(J:cond c a b=r):a=r:=by subst h;exact J
theorem SV{c:Bool}{a b:Option β}{r:Option β}(h:c=false)(J:cond c a b=r):b=r:=by subst h;exact J
def aB{β:Type}(p:Prop)[Decidable p](k:Option β):Option β:=if p then k else none
theorem cC{p:Prop}[Decidable p]{k:Option β}{r:β}(h:aB p k=some r):p/\k=some r:=by
 unfold aB at h;split at h;rename_i hp;exact⟨hp,h⟩;cases h
theorem gh{p:Prop}[Decidable p]{k:Option β}(h:p):aB p k=k:=by simp[aB,h]
def a8{α:Type}(l:List α)(i:Int):Option α:=if 0<=i/\i<(l.length:Int)then l[i.toNat]? else none
variable{l:List α}
variable{i:Int}
variable{x:α}
theorem z2r(c:α->List U)(h:a8 l i=some x):0<=i/\i<(l.length:Int)/\(l.map c)[i.toNat]? = some (c x):=by
 unfold a8 at h;split at h;rename_i hp;exact⟨hp.1,hp.2,by simp[h]⟩;cases h
theorem PH(h:a8 l i=some x):0<=i/\i<(l.length:Int)/\l[i.toNat]? = some x:=by
 unfold a8 at h;split at h;rename_i hp;exact⟨hp.1,hp.2,h⟩;cases h
theorem c6(i:Nat):a8 l (i:Int)=l[i]?:=by
 unfold a8;by_cases h:i<l.length;simp[h];simp[h]
def cI(k:IntKind)(n:Int):List U:=[.int k n]
def cS(s:List UInt8):List U:=[.str s]
def cL{α:Type}(c:α->List U)(l:List α):List U:=[.isl false (l.map c)]
theorem UK(n:Nat)(k:IntKind)(x:Int):aG n (cI k x):=by simp[cI,aG,aU]
theorem yd(n:Nat)(x:List UInt8):aG n (cS x):=by simp[cS,aG,aU]
variable{c:α->List U}
theorem TD(n:Nat)(h:∀x,aG n (c x))(x:List α):aG n (cL c x):=by simp[cL,aG,aU,pJ c h x]
variable{sz:Nat}
theorem si(h:∀x,(c x).length=sz)(l:List α):((l.map c).all fun r=>Nat.beq r.length sz)=true:=by
 simp[h]
theorem ER(h:∀x,(c x).length=sz)(l:List α):((l.map c).flatten).length=l.length*sz:=by
 induction l with|nil=>simp|cons x l ih=>simp only[zQ,List.flatten_cons,zU,ih,h,zO,Nat.succ_mul];omega
theorem z6s(c:α->List U)(l k:List α):((l++k).map c).flatten=(l.map c).flatten++(k.map c).flatten:=by simp
theorem zb5(h:∀x,(c x).length=sz)(l:List α):iO (l.map c).flatten (0*sz) (l.length*sz)=some (l.map c).flatten:=by
 have:=ER h l;simp only[iO,Nat.zero_mul,Nat.zero_add,this,zF,if_true,List.drop_zero];rw[<-this,List.take_length]
theorem Nb(h:∀x,(c x).length=sz)(l:List α)(i:Nat):((l.map c).flatten).drop (i*sz)=((l.drop i).map c).flatten:=by
 induction i generalizing l with|zero=>simp|succ i ih=>rcases l with _|⟨x,l⟩;simp;simp only[zQ,List.flatten_cons,List.drop_succ_cons,Nat.succ_mul];rw[Nat.add_comm,<-List.drop_drop,List.drop_append_of_le_length (by rw[h];exact zF _)];rw[show(c x).drop sz=[]from List.drop_eq_nil_of_le (by rw[h];exact zF _),List.nil_append,ih]
theorem Yc(h:∀x,(c x).length=sz)(l:List α)(i:Nat):((l.map c).flatten).take (i*sz)=((l.take i).map c).flatten:=by
 induction i generalizing l with|zero=>simp|succ i ih=>rcases l with _|⟨x,l⟩;simp;simp only[zQ,List.flatten_cons,List.take_succ_cons,Nat.succ_mul];rw[Nat.add_comm,List.take_append,h,zW (by rw[h];omega),Nat.add_sub_cancel_left,ih]
theorem qo6(h:∀x,(c x).length=sz)(l:List α):bT sz l.length (l.map c).flatten=l.map c:=by
 induction l with|nil=>rfl|cons x l ih=>simp only[zQ,List.flatten_cons,zO,bT];rw[List.take_append_of_le_length (by rw[h];exact zF _),zW (by rw[h];exact zF _),List.drop_append_of_le_length (by rw[h];exact zF _),List.drop_eq_nil_of_le (by rw[h];exact zF _),List.nil_append,ih]
theorem yj(h:∀x,(c x).length=sz)(hx:a8 l i=some x):iO (l.map c).flatten (0*sz+i.toNat*sz) sz=some (c x):=by
 obtain⟨h1,h2,h3⟩:=PH hx;have hlt:i.toNat<l.length:=by omega
 have hl:=ER h l;have hle:i.toNat*sz+sz<=l.length*sz:=by rw[<-Nat.succ_mul];exact Nat.mul_le_mul_right _ (by omega)
 simp only[iO,Nat.zero_mul,Nat.zero_add,hl,hle,if_true,Nb h,zA];have hd:l.drop i.toNat=x::l.drop (i.toNat+1):=by rw[List.drop_eq_getElem_cons hlt];rw[List.getElem?_eq_getElem hlt]at h3;rw[Option.some.inj h3]
 rw[hd];simp only[zQ,List.flatten_cons];rw[List.take_append_of_le_length (by rw[h];exact zF _),zW (by rw[h];exact zF _)]
theorem NE(h:∀x,(c x).length=sz)(hz:0<sz)(hx:a8 l i=some x):((l.map c).flatten=[])=False:=by
 obtain⟨h1,h2,h3⟩:=PH hx;have hl:=ER h l;simp only[eq_iff_iff,iff_false];intro e;rw[e]at hl;have:0<l.length*sz:=Nat.mul_pos (by omega) hz;simp at hl;omega
theorem zbe(h:∀x,(c x).length=1){u:α->U}(hu:∀x,c x=[u x])(hx:a8 l i=some x):nth (l.map c).flatten (0*1+i.toNat*1)=some (u x):=by
 have:=yj h hx;obtain⟨h1,h2⟩:=K3 this;rw[hu]at h2;rw[gG];have h3:=congrArg (fun l:List U=>l[0]?) h2;simp only[List.getElem?_take,List.getElem?_drop]at h3;simpa using h3.symm
def oH{α:Type}(l:List α)(lo hi:Int):Option (List α):=if 0<=lo/\lo<=hi/\hi<=(l.length:Int)then some ((l.take hi.toNat).drop lo.toNat)else none
theorem bj(c:α->List U)(l:List α)(a b:Nat):mS (l.map c) a b=((l.take b).drop a).map c:=by simp[mS,List.map_drop,List.map_take]
variable{k:List α}
variable{lo:Int}
variable{hi:Int}
theorem A'(h:oH l lo hi=some k):0<=lo/\lo<=hi/\hi<=(l.length:Int)/\(l.take hi.toNat).drop lo.toNat=k:=by
 unfold oH at h;split at h;rename_i hp;exact⟨hp.1,hp.2.1,hp.2.2,Option.some.inj h⟩;cases h
theorem P1{n m:Nat}{k:IntKind}(h1:0<=hi)(h2:hi<=(n:Int)):fF m n none (some (.int k hi)) none=some (0,hi.toNat,n):=by
 have:o4 hi (n+1)=true:=GL ⟨by omega,by omega⟩;simp[fF,gZ,this]
theorem Lq{n:Nat}{k:IntKind}(h1:0<=lo)(h2:lo<=(n:Int)):fF n n (some (.int k lo)) none none=some (lo.toNat,n,n):=by
 have:o4 lo (n+1)=true:=GL ⟨by omega,by omega⟩;simp[fF,gZ,this]
def JM(n0:Nat)(E:List U->Sg->Prop)(Q:Exit->List U->Sg->Prop):Exit->List U->Sg->Prop
 |.normal,tm,σ=>∃tm' σ',E tm' σ'/\n0<=σ'.nx/\Gh n0 tm σ tm' σ'|e,tm,σ=>Q e tm σ
variable{C:PG}
variable{n0:Nat}
variable{tm:List U}
variable{σ:Sg}
theorem cW{Q:Exit->List U->Sg->Prop}{c:Code}(E:List U->Sg->Prop)(out:∀tm σ,E tm σ->Q .normal tm σ)(h:WPU C n0 c tm σ (JM n0 E Q)):WPU C n0 c tm σ Q:=by
 refine WPU.after h ?_;intro e OA σ1 hn h;cases e with
 |normal=>obtain⟨tm'',bM,h1,h2,h3⟩:=h;exact⟨tm'',bM,h2,h3,out _ _ h1⟩
 |_=>exact⟨OA,σ1,hn,Gh.refl _ _ _,h⟩
theorem WPU.loopK{Q:Exit->List U->Sg->Prop}{c:Code}{id:Nat}(I:Nat->List U->Sg->Prop)(E:List U->Sg->Prop)(n:Nat)(h₀:I n tm σ)
  (out:∀tm σ,E tm σ->Q .normal tm σ)
  (round:∀n tm σ,I n tm σ->WPU C n0 c tm σ (wY (fun tm' σ'=>∃n' tm'' bM,n'<n/\I n' tm'' bM/\n0<=bM.nx/\Gh n0 tm' σ' tm'' bM) (uS id (JM n0 E Q)))):WPU C n0 (.block id (.loop c)) tm σ Q:=by
 refine cW E out ?_;apply aP;exact WPU.loopG I n h₀ round
theorem aY.ghost{P:Program}{f:FuncId}{args args':List U}{σ':Sg}{R:U->Sg->Prop}(hg:Gh σ.nx args σ args' σ')(hn:σ.nx<=σ'.nx)(h:aY P f args' σ' R):aY P f args σ R:=fun F x vs m w cargs hx hh hfr he hfit hargs=>by
 obtain⟨y,g1,g2,g3,g4,g5,g6⟩:=hg F x vs hx hh hfr he;have hadv:=g1 m w hfit;refine(h F y vs m w cargs g2 g3 g4 g5 hadv.fits (hargs.ext (aH.refl _ _) hadv.nx)).mono ?_;rintro e w₁ ⟨z,aC,u,v,cv,h1,h2,h3,h4,h5,h6,h7,h8,h9⟩;refine⟨z,aC,u,v,cv,h1,h2,hadv.trans h3,h4,h5,h6,h7,?_,?_⟩;have g6':Ke x.σ.nx x y:=by rw[hx];exact g6
 exact g6'.trans (h8.le (by rw[hx,g2];exact hn));rw[hx];exact Nat.le_trans hn (by rw[<-g2];exact h9)
mutual
inductive Wk:U->U->Prop
 |refl (u:U):Wk u u
 |nil (t:Bool):Wk .nils (.isl t [])
 |full (l:List (List U)):Wk (.isl true l) (.isl false l)
 |agg {l l':List U} (h:nO l l'):Wk (.agg l) (.agg l')
 |tup {l l':List U} (h:nO l l'):Wk (.tup l) (.tup l')
inductive nO:List U->List U->Prop
 |nil:nO [] []
 |cons {u u':U} {l l':List U} (h:Wk u u') (h':nO l l'):nO (u::l) (u'::l')
end
theorem nO.refl:∀l,nO l l
 |[]=>.nil|u::l=>.cons (.refl u) (nO.refl l)
theorem Wk.okC{u u':U}(h:Wk u u'):Vx.okC u'=Vx.okC u:=by cases h<;>rfl
theorem nO.len:∀{l l':List U},nO l l'->l'.length=l.length
 |_,_,.nil=>rfl|_,_,.cons _ h=>by simp[h.len]
theorem nO.okL:∀{l l':List U},nO l l'->Vx.okL l'=Vx.okL l
 |_,_,.nil=>rfl|_,_,.cons h h'=>by simp[Vx.okL,h.okC,h'.okL]
mutual
theorem Wk.rel{x:Cx}{u u':U}{v:Value}(h:Wk u u')(hr:aA x u v):aA x u' v:=by
 cases h with
 |refl=>exact hr|nil t=>simp only[aA]at hr ⊢;exact .inl ⟨trivial,.inl hr⟩
 |full l=>simp only[aA]at hr ⊢;rcases hr with hr |⟨i,off,c,h1,h2,h3⟩;exact .inl hr;exact .inr ⟨i,off,c,h1,by simp,h3⟩
 |agg h=>simp only[aA]at hr ⊢;obtain⟨vs,h1,h2,h3,h4⟩:=hr;exact⟨vs,h1,nO.rel h h2,by rw[h.len,h3],by rw[h.okL,h4]⟩
 |tup h=>simp only[aA]at hr ⊢;obtain⟨vs,h1,h2,h3⟩:=hr;exact⟨vs,h1,nO.rel h h2,by rw[h.len,h3]⟩
theorem nO.rel{x:Cx}{l l':List U}{vs:List Value}(h:nO l l')(hr:c8 x l vs):c8 x l' vs:=by
 rcases h with _|⟨h,h'⟩;exact hr;rcases vs with _|⟨v,vs⟩;simp[c8]at hr;simp only[c8]at hr ⊢;exact⟨Wk.rel h hr.1,nO.rel h' hr.2⟩
end
theorem Gh.wk{tm':List U}(h:nO tm tm'):Gh n0 tm σ tm' σ:=fun F x tv hx hr hf he=>⟨x,fun m w hf=>bD.refl hf,hx,hr,hf,⟨h.rel he.1,by rw[h.len];exact he.2⟩,Ke.refl _ _⟩
theorem Gh.fz{tm':List U}{h':List (Nat×B)}(K:Nat)(b:B)(sz:Nat)(hg:gt σ.h K=some b)(hb:∀es cl,b≠.map es cl)(ht:hJ K b sz tm=tm')(hh:nM K b sz σ.h=h'):Gh n0 tm σ tm' ⟨h',σ.nx⟩:=by
 subst ht;subst hh;exact Gh.freeze sz hg hb
theorem XP(h:∀x,(c x).length=sz)(l:List α)(K s:Nat)(e:TypeId)(st:Nat):fz K (.vec (l.map c).flatten e sz st) s (.vl K st 0 l.length)=.isl false (l.map c):=by
 have hl:=ER h l;have hc:=qo6 h l;simp[fz,beq_eq,hl,hc]
theorem cf(n:Nat):∀(a b:List U),aG n a->aG n b->aG n (a++b)
 |[],b,_,h=>h|u::a,b,h,h'=>by simp only[aG]at h;simp only[List.cons_append,aG];exact⟨h.1,cf n a b h.2 h'⟩
theorem uT{α:Type}{c:α->List U}(n:Nat)(h:∀x,aG n (c x)):∀l:List α,aG n (l.map c).flatten
 |[]=>by simp[aG]
 |x::l=>by simp only[zQ,List.flatten_cons];exact cf n _ _ (h x) (uT n h l)
theorem RU.fcall{T:Tb}{ops r:List Oper}{o:Oper}{σ1:Sg}{K:List U->Sg->Prop}{f:FuncId}{args args':List U}{u:U}(hw:bW ops tm o=some true)(hc:i9 T tm o.op=some (f,args))(hg:Gh σ.nx args σ args' σ1)(hn:σ.nx<=σ1.nx)(hev:aY C.prog f args' σ1 (fun u' σ'=>u'=u/\σ'=σ1))
  (h:RU C T ops r (d5 tm o.dst u) σ1 K):RU C T ops (o::r) tm σ K:=RU.call hw hc (aY.ghost hg hn hev) (fun u' σ' ⟨h1,h2⟩=>by subst h1;subst h2;exact h)
theorem UI(c:α->List U)(kk:IntKind)(h:oH l 0 hi=some k):fF l.length l.length none (some (.int kk hi)) none=some (0,hi.toNat,l.length)/\mS (l.map c) 0 hi.toNat=k.map c:=by
 obtain⟨h1,h2,h3,h4⟩:=A' h;exact⟨P1 h2 h3,by rw[bj,<-h4];rfl⟩
theorem ST(c:α->List U)(kk:IntKind)(h:oH l lo (l.length:Int)=some k):fF l.length l.length (some (.int kk lo)) none none=some (lo.toNat,l.length,l.length)/\mS (l.map c) lo.toNat l.length=k.map c:=by
 obtain⟨h1,h2,h3,h4⟩:=A' h;exact⟨Lq h1 h2,by rw[bj,<-h4];simp⟩
def kQ:List (Nat×U)->Nat->Option U
 |[],_=>none|(j,u)::l,i=>cond (Nat.beq j i) (some u) (kQ l i)
def S6(l:List (Nat×U)):Nat->Nat->List U
 |0,_=>[]|n+1,i=>((kQ l i).getD .junk)::S6 l n (i+1)
def fr(n:Nat)(l:List (Nat×U)):List U:=S6 l n 0
theorem ul(l:List (Nat×U)):∀n i,(S6 l n i).length=n
 |0,_=>rfl|n+1,i=>by simp[S6,ul l n]
theorem um(l:List (Nat×U)):∀n i k,k<n->(S6 l n i)[k]? = some ((kQ l (i+k)).getD .junk)
 |0,_,_,h=>by omega
 |n+1,i,0,_=>by simp[S6]
 |n+1,i,k+1,h=>by simp only[S6,zH];rw[um l n (i+1) k (by omega),show i+1+k=i+(k+1) by omega]
theorem zP(n:Nat)(l:List (Nat×U)):(fr n l).length=n:=ul l n 0
variable{k:Nat}
theorem GN(n:Nat)(l:List (Nat×U))(h:k<n):(fr n l)[k]? = some ((kQ l k).getD .junk):=by
 have:=um l n 0 k h;simpa[fr]using this
variable{n:Nat}
variable{l:List (Nat×U)}
theorem vg{t:List U}(hl:t.length=n)(h:∀k,k<n->t[k]? = some ((kQ l k).getD .junk)):t=fr n l:=by
 apply List.ext_getElem?;intro k;by_cases hk:k<n;rw[h k hk,GN n l hk];rw[List.getElem?_eq_none (by omega),List.getElem?_eq_none (by rw[zP];omega)]
def bO(n:Nat)(l:List (Nat×U)):Operand->Option U
 |.tmp t=>cond (Nat.blt t n) (kQ l t) none|.const v=>fU v
 |.func f=>some (.fn (.func f) [] [])|.global _=>none
variable{o:Operand}
variable{u:U}
theorem dY(h:bO n l o=some u):bP (fr n l) o=some u:=by
 cases o with
 |tmp t=>simp only[bO]at h;rcases hb:Nat.blt t n with _|_;rw[hb]at h;cases h;rw[hb]at h;simp only[zC]at h;simp only[bP,gG];have ht:t<n:=zY hb;rw[GN n l ht,h];rfl
 |const v=>exact h|func f=>exact h
 |global g=>cases h
def DW(n:Nat)(l:List (Nat×U)):List Operand->Option (List U)
 |[]=>some []|x::r=>match bO n l x with
  |some v=>(match DW n l r with
   |some q=>some (v::q)|none=>none)
  |none=>none
theorem UG{n:Nat}{l:List (Nat×U)}:∀{os:List Operand}{us:List U},DW n l os=some us->jJ (fr n l) os=some us
 |[],us,h=>h|o::os,us,h=>by simp only[DW]at h;rcases h1:bO n l o with _|v;simp[h1]at h;rcases h2:DW n l os with _|q;simp[h1,h2]at h;simp only[h1,h2]at h;simp only[jJ,dY h1,UG h2];exact h
def AP(n:Nat)(l:List (Nat×U)):List (Nat×Operand)->Option (List (Nat×U))
 |[]=>some []|(i,x)::r=>match bO n l x with
  |some v=>(match AP n l r with
   |some q=>some ((i,v)::q)|none=>none)
  |none=>none
theorem Un{n:Nat}{l:List (Nat×U)}:∀{os:List (Nat×Operand)}{us:List (Nat×U)},AP n l os=some us->tY (fr n l) os=some us
 |[],us,h=>h|(i,o)::os,us,h=>by simp only[AP]at h;rcases h1:bO n l o with _|v;simp[h1]at h;rcases h2:AP n l os with _|q;simp[h1,h2]at h;simp only[h1,h2]at h;simp only[tY,dY h1,Un h2];exact h
def QK(l:List (Nat×U)):Option Tmp->U->List (Nat×U)
 |none,_=>l|some d,u=>(d,u)::l
def xg(n:Nat):Option Tmp->Bool
 |none=>true|some d=>Nat.blt d n
theorem oL{d:Option Tmp}(u:U)(hd:xg n d=true):d5 (fr n l) d u=fr n (QK l d u):=by
 rcases d with _|d;rfl;have hlt:d<n:=zY hd;refine vg (by simp[d5,zP]) fun k hk=>?_
 simp only[d5,List.getElem?_set,zP,QK,kQ,beq_eq];by_cases e:d=k;subst e;simp[hlt];simp only[e,if_false,yB,zD];exact GN n l hk
section
variable{P:Program}{T:Tb}{ops r:List Oper}{o:Oper}{n:Nat}{l:List (Nat×U)}{σ σ':Sg}{K:List U->Sg->Prop}{u:U}
variable{C:PG}
variable{d:Tmp}
theorem RS.op(hw:bW ops (fr n l) o=some true)(h:bB T σ (fr n l) o.op=some (u,σ'))(he:o.dst=some d)(hd:Nat.blt d n=true)(hk:RU C T ops r (fr n ((d,u)::l)) σ' K):RU C T ops (o::r) (fr n l) σ K :=
 .inl ⟨hw,u,σ',h,by rw[he,oL (d:=some d) u hd];exact hk⟩
theorem FP(hw:bW ops (fr n l) o=some true)(h:bB T σ (fr n l) o.op=some (u,σ'))(he:o.dst=none)(hk:RU C T ops r (fr n l) σ' K):RU C T ops (o::r) (fr n l) σ K :=
 .inl ⟨hw,u,σ',h,by rw[he];exact hk⟩
theorem RS.no(hw:bW ops (fr n l) o=some false)(he:o.dst=some d)(hd:Nat.blt d n=true)(hk:RU C T ops r (fr n ((d,.tup [])::l)) σ K):RU C T ops (o::r) (fr n l) σ K :=
 .inr (.inr (.inl ⟨hw,by rw[he,oL (d:=some d) _ hd];exact hk⟩))
variable{b:Bool}
theorem RS.nilq{t e ty:TypeId}{xo yo:Operand}{rs:List (List U)}(hw:bW ops (fr n l) o=some true)(ho:o.op=.binOp .eql t xo yo ty)(hd:T.und t=some (.slice e))(hx:bO n l xo=some (.isl b rs))(hy:bO n l yo=some .nils)(he:o.dst=some d)(hd':Nat.blt d n=true)(hk:∀z:Bool,(z=true->rs=[])->RU C T ops r (fr n ((d,.bool z)::l)) σ K):RU C T ops (o::r) (fr n l) σ K :=
 .inr (.inr (.inr (.inl ⟨hw,t,xo,yo,ty,e,b,rs,ho,hd,dY hx,dY hy,fun z hz=>by rw[he,oL (d:=some d) _ hd'];exact hk z hz⟩)))
theorem RS.step{u:U}{σ':Sg}(hw:bW ops (fr n l) o=some true)(hs:BJ C σ (fr n l) o (fun u' σ1=>u'=u/\σ1=σ'))(he:o.dst=some d)(hd:Nat.blt d n=true)(hk:RU C T ops r (fr n ((d,u)::l)) σ' K):RU C T ops (o::r) (fr n l) σ K :=
 .inr (.inr (.inr (.inr ⟨hw,_,hs,fun u' σ1 h=>by rw[h.1,h.2,he,oL (d:=some d) _ hd];exact hk⟩)))
theorem RS.done(h:K (fr n l) σ):RU C T ops [] (fr n l) σ K:=h
theorem RS.call{f:FuncId}{args:List U}(hw:bW ops (fr n l) o=some true)(hc:i9 T (fr n l) o.op=some (f,args))(hev:aY C.prog f args σ (fun u' σ'=>u'=u/\σ'=σ))(he:o.dst=some d)(hd:Nat.blt d n=true)(hk:RU C T ops r (fr n ((d,u)::l)) σ K):RU C T ops (o::r) (fr n l) σ K :=
 RU.pcall hw hc hev (by rw[he,oL (d:=some d) u hd];exact hk)
theorem RS.fcall{C:PG}{f:FuncId}{args args':List U}{σ1:Sg}(hw:bW ops (fr n l) o=some true)(hc:i9 T (fr n l) o.op=some (f,args))(hg:Gh σ.nx args σ args' σ1)(hn:σ.nx<=σ1.nx)(hev:aY C.prog f args' σ1 (fun u' σ'=>u'=u/\σ'=σ1)){d:Tmp}(he:o.dst=some d)(hd:Nat.blt d n=true)(hk:RU C T ops r (fr n ((d,u)::l)) σ1 K):RU C T ops (o::r) (fr n l) σ K :=
 RU.fcall hw hc hg hn hev (by rw[he,oL (d:=some d) u hd];exact hk)
variable{j:Nat}
variable{want:Bool}
theorem uN(hg:o.guard=some (j,want))(hj:uQ ops j=some d)(hl:bO n l (.tmp d)=some (.bool b))(hb:b=want):bW ops (fr n l) o=some true:=by
 have:=dY hl;simp only[bP]at this;simp[bW,hg,hj,this,hb]
theorem Kd(hg:o.guard=some (j,want))(hj:uQ ops j=some d)(hl:bO n l (.tmp d)=some (.bool b))(hb:b= !want):bW ops (fr n l) o=some false:=by
 have:=dY hl;simp only[bP]at this;cases want<;>simp[bW,hg,hj,this,hb]
theorem B9{q:List U}(hg:o.guard=some (j,want))(hj:uQ ops j=some d)(hl:bO n l (.tmp d)=some (.tup q)):bW ops (fr n l) o=some false:=by
 have:=dY hl;simp only[bP]at this;simp[bW,hg,hj,this]
end
section
variable{P:Program}{T:Tb}{ops r:List Oper}{o:Oper}{n:Nat}{l:List (Nat×U)}{σ σ':Sg}{acc:List RK}{K:List RK->List U->Sg->Prop}{u:U}
variable{d:Tmp}
theorem RD.look(hw:bW ops (fr n l) o=some true)(h:bB T σ (fr n l) o.op=some (u,σ))(he:o.dst=some d)(hd:Nat.blt d n=true)(hk:RH P T ops r (fr n ((d,u)::l)) σ ((1,⟨fr n l,o,u,false,false,σ,σ⟩)::acc) K):RH P T ops (o::r) (fr n l) σ acc K :=
 .inl ⟨hw,u,h,by rw[he,oL (d:=some d) u hd];exact hk⟩
theorem RD.act(hw:bW ops (fr n l) o=some true)(h:bB T σ (fr n l) o.op=some (u,σ'))(he:o.dst=some d)(hd:Nat.blt d n=true)(hk:RH P T ops r (fr n ((d,u)::l)) σ' ((3,⟨fr n l,o,u,true,true,σ,σ'⟩)::acc) K):RH P T ops (o::r) (fr n l) σ acc K :=
 .inr (.inl ⟨hw,u,σ',h,by rw[he,oL (d:=some d) u hd];exact hk⟩)
theorem RD.actn(hw:bW ops (fr n l) o=some true)(h:bB T σ (fr n l) o.op=some (u,σ'))(he:o.dst=none)(hk:RH P T ops r (fr n l) σ' ((3,⟨fr n l,o,u,true,true,σ,σ'⟩)::acc) K):RH P T ops (o::r) (fr n l) σ acc K :=
 .inr (.inl ⟨hw,u,σ',h,by rw[he];exact hk⟩)
theorem RD.no(hw:bW ops (fr n l) o=some false)(he:o.dst=some d)(hd:Nat.blt d n=true)(hk:RH P T ops r (fr n ((d,.tup [])::l)) σ ((0,⟨fr n l,o,.tup [],false,false,σ,σ⟩)::acc) K):RH P T ops (o::r) (fr n l) σ acc K :=
 .inr (.inr (.inr (.inr (.inl ⟨hw,by rw[he,oL (d:=some d) _ hd];exact hk⟩))))
theorem RD.free{f:FuncId}{args:List U}(hw:bW ops (fr n l) o=some true)(hc:i9 T (fr n l) o.op=some (f,args))(hev:∀s,aY P f args s (fun u' σ'=>u'=u/\σ'=s))(he:o.dst=some d)(hd:Nat.blt d n=true)(hk:RH P T ops r (fr n ((d,u)::l)) σ ((0,⟨fr n l,o,u,false,false,σ,σ⟩)::acc) K):RH P T ops (o::r) (fr n l) σ acc K :=
 .inr (.inr (.inr (.inr (.inr (.inl ⟨hw,u,.inl ⟨f,args,hc,hev⟩,by rw[he,oL (d:=some d) u hd];exact hk⟩)))))
theorem RD.freeO(hw:bW ops (fr n l) o=some true)(hf:tW P T (fr n l) o.op u)(he:o.dst=some d)(hd:Nat.blt d n=true)(hk:RH P T ops r (fr n ((d,u)::l)) σ ((0,⟨fr n l,o,u,false,false,σ,σ⟩)::acc) K):RH P T ops (o::r) (fr n l) σ acc K :=
 .inr (.inr (.inr (.inr (.inr (.inl ⟨hw,u,hf,by rw[he,oL (d:=some d) u hd];exact hk⟩)))))
theorem RD.fz{u1:U}{s1 σ':Sg}(hw:bW ops (fr n l) o=some true)(h:bB T σ (fr n l) o.op=some (u1,s1))(hg:Gh s1.nx [u1] s1 [u] σ')(hn:s1.nx<=σ'.nx)(he:o.dst=some d)(hd:Nat.blt d n=true)(hk:RH P T ops r (fr n ((d,u)::l)) σ' ((3,⟨fr n l,o,u,true,true,σ,σ'⟩)::acc) K):RH P T ops (o::r) (fr n l) σ acc K :=
 .inr (.inr (.inr (.inr (.inr (.inr ⟨hw,u1,s1,d,u,σ',h,he,by rw[zP];rwa [Nat.blt_eq]at hd,hg,hn,by rw[he,oL (d:=some d) u hd];exact hk⟩)))))
theorem RD.call{f:FuncId}{args:List U}(hw:bW ops (fr n l) o=some true)(hc:i9 T (fr n l) o.op=some (f,args))(hev:aY P f args σ (fun u' σ'=>u'=u/\σ'=σ)){d:Tmp}(he:o.dst=some d)(hd:Nat.blt d n=true)(hk:RH P T ops r (fr n ((d,u)::l)) σ ((2,⟨fr n l,o,u,true,false,σ,σ⟩)::acc) K):RH P T ops (o::r) (fr n l) σ acc K :=
 RH.call hw hc hev (by rw[he,oL (d:=some d) u hd];exact hk)
theorem aZ(h:K acc (fr n l) σ):RH P T ops [] (fr n l) σ acc K:=h
end
def AK(l:List (Nat×U)):List (Nat×U)->Prop
 |[]=>True|(i,u)::r=>kQ l i=some u/\AK l r
theorem cr{l:List (Nat×U)}:∀{r:List (Nat×U)},AK l r->∀i u,kQ r i=some u->kQ l i=some u
 |[],_,i,u,h=>by cases h
 |(j,v)::r,hs,i,u,h=>by simp only[AK]at hs;simp only[kQ,beq_eq]at h;by_cases e:j=i;subst e;simp at h;subst h;exact hs.1;simp only[e,yB,zD]at h;exact cr hs.2 i u h
theorem Vr{x:Cx}{tv:List Value}(hl:tv.length=n)(h:∀i u,i<n->kQ l i=some u->∃v,tv[i]? = some v/\aA x u v):aX x (fr n l) tv:=by
 refine aX.mk' (by rw[zP,hl]) fun i u hi=>?_;have hlt:i<n:=by have:=(zG.1 hi).1;rwa [zP]at this
 rw[GN n l hlt]at hi;cases hk:kQ l i with
 |none=>rw[hk]at hi;simp at hi;subst hi;exact⟨tv[i],List.getElem?_eq_getElem (by omega),by simp[aA]⟩|some w=>rw[hk]at hi;simp at hi;subst hi;exact h i w hlt hk
theorem eh{x:Cx}{tv:List Value}(he:aX x (fr n l) tv){i:Nat}(hi:i<n)(h:kQ l i=some u):∃v,tv[i]? = some v/\aA x u v :=
 he.get (by rw[GN n l hi,h];rfl)
variable{n0:Nat}
variable{l':List (Nat×U)}
variable{σ:Sg}
theorem Gh.sub(h:AK l l'):Gh n0 (fr n l) σ (fr n l') σ:=fun F x tv hx hr hf he=>
 ⟨x,fun m w hf=>bD.refl hf,hx,hr,hf,Vr (by rw[<-he.2,zP]) (fun i u hi hl=>eh he hi (cr h i u hl)),Ke.refl _ _⟩
def I0:Nat->List U->List (Nat×U)
 |_,[]=>[]|i,u::l=>(i,u)::I0 (i+1) l
theorem eu:∀(l:List U)(i k:Nat)(u:U),kQ (I0 i l) k=some u->i<=k/\l[k-i]? = some u
 |[],i,k,u,h=>by cases h
 |v::l,i,k,u,h=>by simp only[I0,kQ,beq_eq]at h;by_cases e:i=k;subst e;simp at h;subst h;simp;simp only[e,yB,zD]at h;obtain⟨h1,h2⟩:=eu l (i+1) k u h;refine⟨by omega,?_⟩;rw[show k-i=(k-(i+1))+1 by omega];simpa using h2
theorem gc:∀(n:Nat)(l:List U)(k:Nat)(u:U),l[k]? = some u->(vS n l)[k]? = some u
 |0,l,k,u,h=>h|n+1,[],k,u,h=>by simp at h
 |n+1,v::l,0,u,h=>by simpa[vS]using h
 |n+1,v::l,k+1,u,h=>by simp only[vS,zH]at*;exact gc n l k u h
theorem Wt:∀(n:Nat)(l:List U),l.length<=n->(vS n l).length=n
 |0,l,h=>by simp[vS];exact List.eq_nil_of_length_eq_zero (by omega)
 |n+1,[],h=>by simp[vS,Wt n [] (by simp)]
 |n+1,v::l,h=>by simp[vS,Wt n l (by simpa using h)]
theorem FQ{args:List U}(h:args.length<=n):Gh n0 (vS n args) σ (fr n (I0 0 args)) σ:=fun F x tv hx hr hf he=>
 ⟨x,fun m w hf=>bD.refl hf,hx,hr,hf,Vr (by rw[<-he.2,Wt n args h]) (fun i u hi hl=>by obtain⟨_,h2⟩:=eu args 0 i u hl;exact he.get (gc n args i u (by simpa using h2))),Ke.refl _ _⟩
def FW(n:Nat):List (Nat×U)->Prop
 |[]=>True|(_,u)::l=>aU n u/\FW n l
theorem G'{n:Nat}:∀{l:List (Nat×U)},FW n l->∀i u,kQ l i=some u->aU n u
 |[],_,i,u,h=>by cases h
 |(j,v)::l,hb,i,u,h=>by simp only[FW]at hb;simp only[kQ,beq_eq]at h;by_cases e:j=i;subst e;simp at h;subst h;exact hb.1;simp only[e,yB,zD]at h;exact G' hb.2 i u h
theorem Me{n1:Nat}(h:FW n1 l):aG n1 (fr n l):=by
 rw[xH];intro u hu;obtain⟨i,hi,rfl⟩:=List.getElem_of_mem hu;have hlt:i<n:=by rwa [zP]at hi
 have:=GN n l hlt;rw[List.getElem?_eq_getElem hi]at this;simp only[zA]at this;rw[this];rcases hk:kQ l i with _|w;simp[aU];exact G' h i w hk
theorem Gh.toS{n1:Nat}{σ':Sg}(ht:AK l l')(hs:(⟨Vx.cut n1 σ.h,n1⟩:Sg)=σ')(h1:n0<=n1)(h2:n1<=σ.nx)(hb:FW n1 l')(hh:yP n1 σ'.h):Gh n0 (fr n l) σ (fr n l') σ':=by
 subst hs;exact(Gh.sub ht).trans (Gh.cut h1 h2 (Me hb) hh)
theorem m7{σ':Sg}(ht:AK l l')(hs:σ=σ'):Gh n0 (fr n l) σ (fr n l') σ':=by
 subst hs;exact Gh.sub ht
def fzS(K:Nat)(b:B)(sz:Nat):List (Nat×U)->List (Nat×U)
 |[]=>[]|(i,u)::l=>(i,fz K b sz u)::fzS K b sz l
theorem gu(K:Nat)(b:B)(sz:Nat):∀(l:List (Nat×U))(i:Nat),kQ (fzS K b sz l) i=(kQ l i).map (fz K b sz)
 |[],i=>rfl|(j,u)::l,i=>by simp only[fzS,kQ,beq_eq,gu K b sz l i];by_cases e:j=i<;>simp[e]
theorem S4(K:Nat)(b:B)(sz n:Nat)(l:List (Nat×U)):hJ K b sz (fr n l)=fr n (fzS K b sz l):=by
 refine vg (by rw[P8,zP]) fun k hk=>?_;have hm:∀(t:List U)(k:Nat),(hJ K b sz t)[k]? = (t[k]?).map (fz K b sz):=by
  intro t;induction t with
  |nil=>intro k;simp[hJ]|cons u t ih=>intro k;cases k<;>simp[hJ,ih]
 rw[hm,GN n l hk,gu];rcases kQ l k with _|w;simp[EK];rfl
theorem Gh.fzS{h':List (Nat×B)}(K:Nat)(b:B)(sz:Nat)(hg:gt σ.h K=some b)(hb:∀es cl,b≠.map es cl)(ht:Vx.fzS K b sz l=l')(hh:nM K b sz σ.h=h'):Gh n0 (fr n l) σ (fr n l') ⟨h',σ.nx⟩:=by
 subst ht;subst hh;rw[<-S4];exact Gh.freeze sz hg hb
inductive XH:List (Nat×U)->List (Nat×U)->Prop
 |nil:XH [] []
 |cons {i:Nat} {u u':U} {l l':List (Nat×U)} (h:Wk u u') (h':XH l l'):XH ((i,u)::l) ((i,u')::l')
theorem XH.look:∀{l l':List (Nat×U)},XH l l'->∀i u',kQ l' i=some u'->∃u,kQ l i=some u/\Wk u u'
 |_,_,.nil,i,u',h=>by cases h
 |_,_,.cons (i:=j) h h',i,u',hu=>by simp only[kQ,beq_eq]at hu ⊢;by_cases e:j=i;subst e;simp at hu;subst hu;exact⟨_,by simp,h⟩;simp only[e,yB,zD]at hu ⊢;exact h'.look i u' hu
theorem Gh.wkS(h:XH l l'):Gh n0 (fr n l) σ (fr n l') σ:=fun F x tv hx hr hf he=>
 ⟨x,fun m w hf=>bD.refl hf,hx,hr,hf,Vr (by rw[<-he.2,zP]) (fun i u hi hl=>by obtain⟨w,h1,h2⟩:=h.look i u hl;obtain⟨v,h3,h4⟩:=eh he hi h1;exact⟨v,h3,h2.rel h4⟩),Ke.refl _ _⟩
theorem Gh.nilS(i:Nat)(e:TypeId)(sz:Nat)(hsz:0<sz)(h0:n0<=σ.nx)(hi:bO n l (.tmp i)=some .nils)(hd:xg n (some i)=true):Gh n0 (fr n l) σ (fr n ((i,.vl σ.nx 0 0 0)::l)) (cY σ (.vec [] e sz 0)):=by
 have h1:=dY hi;have h2:=Gh.nilvec (n0:=n0) (σ:=σ) i e sz hsz h0 (tm:=fr n l) h1;have h3:=oL (n:=n) (l:=l) (d:=some i) (.vl σ.nx 0 0 0) hd;simp only[d5,QK]at h3
 rwa [h3]at h2
variable{c:Operand}
variable{t:Bool}
theorem tN{C:PG}{Q:Exit->List U->Sg->Prop}{p q:Code}(hc:bO n l c=some (.bool t))(h1:t=true->WPU C n0 p (fr n l) σ Q)(h2:t=false->WPU C n0 q (fr n l) σ Q):WPU C n0 (.cond c p q) (fr n l) σ Q:=WPU.cond (dY hc) h1 h2
variable{T:Tb}
variable{us:List U}
theorem d6{t:Tmp}{rs:List ResultVar}(h:bO n l (.tmp t)=some u)(hr:lR T σ (fr n l) rs=some us):lR T σ (fr n l) (.tmp t::rs)=some (u::us):=by
 have:=dY h;simp only[bP]at this;simp[lR,this,hr]
theorem cO:lR T σ (fr n l) []=some []:=rfl
variable{t:TypeId}
theorem jC{a:Tmp}{rs:List ResultVar}(h:bB T σ (fr n l) (.load t (.tmp a))=some (u,σ))(hr:lR T σ (fr n l) rs=some us):lR T σ (fr n l) (.cell a t::rs)=some (u::us):=by
 have:kI T σ (fr n l) (.load t (.tmp a))=some u:=by have hp:eU T σ (fr n l) (.load t (.tmp a))=none:=rfl;have he:kL T σ (fr n l) (.load t (.tmp a))=none:=rfl;unfold bB at h;rw[hp]at h;simp only at h;rcases hr:kI T σ (fr n l) (.load t (.tmp a))with _|v;rw[hr,he]at h;cases h;rw[hr]at h;simp at h;rw[h]
 simp[lR,this,hr]
section
variable{T:Tb}{σ σ':Sg}{n:Nat}{l:List (Nat×U)}{u v w:U}
theorem qI{op:Op}(h:eU T σ (fr n l) op=some u):bB T σ (fr n l) op=some (u,σ):=by simp[bB,h]
theorem FS{op:Op}(h0:eU T σ (fr n l) op=none)(h:kI T σ (fr n l) op=some u):bB T σ (fr n l) op=some (u,σ):=by simp[bB,h,h0]
variable{q:U×Sg}
theorem AL{op:Op}(h0:eU T σ (fr n l) op=none)(h1:kI T σ (fr n l) op=none)(h:kL T σ (fr n l) op=some q):bB T σ (fr n l) op=some q:=by simp[bB,h,h0,h1]
variable{x:Operand}
theorem g8(h:bO n l x=some u):bB T σ (fr n l) (.move x)=some (u,σ):=qI (dY h)
theorem Xu(h:bO n l x=some u):bB T σ (fr n l) (.assign x)=some (u,σ):=qI (dY h)
variable{a:Operand}
theorem Wu{b:Operand}{t:Bool}(hc:bO n l c=some (.bool t))(ht:t=true)(h:bO n l a=some u):bB T σ (fr n l) (.pick c a b)=some (u,σ):=qI (by subst ht;simp only[eU,dY hc];exact dY h)
theorem Wv{b:Operand}{t:Bool}(hc:bO n l c=some (.bool t))(ht:t=false)(h:bO n l b=some u):bB T σ (fr n l) (.pick c a b)=some (u,σ):=qI (by subst ht;simp only[eU,dY hc];exact dY h)
variable{off:Nat}
theorem eD{st:Nat}(h:bO n l x=some (.ptr k st off))(hl:bH σ k st=true):bB T σ (fr n l) (.nilCheck x)=some (.ptr k st off,σ):=qI (by simp only[eU,dY h,hl,zC])
theorem Ac{ps:Array (Nat×Operand)}{qs:List (Nat×U)}(h:AP n l ps.toList=some qs)(hb:UJ T t qs=some u):bB T σ (fr n l) (.build t ps)=some (u,σ):=qI (by simp only[eU,Un h,hb])
variable{t':TypeId}
variable{y:Operand}
theorem OT{op:BinOp}(hx:bO n l x=some v)(hy:bO n l y=some w)(h:g2 (mT T op t) v w=some u):bB T σ (fr n l) (.binOp op t x y t')=some (u,σ):=qI (by simp only[eU,dY hx,dY hy,IU,h])
theorem QQ{op:BinOp}(hx:bO n l x=some v)(hy:bO n l y=some w)(h0:g2 (mT T op t) v w=none)(h:GH T σ op t v w=some u):bB T σ (fr n l) (.binOp op t x y t')=some (u,σ):=qI (by simp only[eU,dY hx,dY hy,IU,h0,h])
variable{k:IntKind}
variable{r:Value}
theorem qL{op:BinOp}{k':IntKind}{a b:Int}(hx:bO n l x=some (.int k a))(hy:bO n l y=some (.int k' b))(h:iG op k a k' b=some r)(hr:fU r=some u):bB T σ (fr n l) (.binOp op t x y t')=some (u,σ):=OT hx hy (by simp only[g2,toV,mT,h,hr])
theorem z0{op:BinOp}{a b:List UInt8}(hx:bO n l x=some (.str a))(hy:bO n l y=some (.str b))(h:B5 op ⟨⟨a⟩⟩ ⟨⟨b⟩⟩=some r)(hr:fU r=some u):bB T σ (fr n l) (.binOp op t x y t')=some (u,σ):=OT hx hy (by simp only[g2,toV,mT,h,hr])
theorem KZ{op:UnOp}(hx:bO n l x=some v)(h:toV v=some (r)){q:Value}(hu:J4 op r=some q)(hq:fU q=some u):bB T σ (fr n l) (.unOp op t x)=some (u,σ):=qI (by simp only[eU,dY hx,g1,h,hu,hq])
theorem Lx{s d:TypeId}{q:Value}(hx:bO n l x=some v)(h:toV v=some r)(hu:convX T s d r=some q)(hq:fU q=some u):bB T σ (fr n l) (.convert s d x)=some (u,σ):=qI (by simp only[eU,dY hx,g1,h,hu,hq])
theorem Ug{f:Fn}{first cap:Array Operand}{a b:List U}(h1:DW n l first.toList=some a)(h2:DW n l cap.toList=some b):bB T σ (fr n l) (.makeFunc f first cap)=some (.fn f a b,σ):=qI (by simp only[eU,UG h1,UG h2])
variable{k:Nat}
theorem i5{f:Nat}{fs:Array Field}{fd:Field}{s st:Nat}(hd:T.und t=some (.struct fs))(hf:nth fs.toList f=some fd)(hs:bZ T fd.type=some (s+1))(hx:bO n l x=some (.ptr k st off))(hl:bH σ k st=true){off':Nat}(ho:off+fd.offset=off'):bB T σ (fr n l) (.fieldAddr t x f)=some (.ptr k st off',σ):=qI (by subst ho;simp only[eU,dY hx,JZ,hd,hf,hs,hl,zC])
variable{q:List U}
theorem Tu{f:Nat}{fs:Array Field}{fd:Field}{s:Nat}(hd:T.und t=some (.struct fs))(hf:nth fs.toList f=some fd)(hs:bZ T fd.type=some (s+1))(hx:bO n l x=some (.iptr q)){q':List U}(hq:q.drop fd.offset=q'):bB T σ (fr n l) (.fieldAddr t x f)=some (.iptr q',σ):=qI (by subst hq;simp only[eU,dY hx,JZ,hd,hf,hs])
theorem kg{i:Nat}(hx:bO n l x=some (.tup q))(h:nth q i=some u):bB T σ (fr n l) (.extract x i)=some (u,σ):=qI (by simp only[eU,dY hx,Mr,h])
theorem d7{i:Operand}(hx:bO n l x=some v)(hi:bO n l i=some w)(h:uR T σ t v w=some u):bB T σ (fr n l) (.indexAddr t x i)=some (u,σ):=qI (by simp only[eU,dY hx,dY hi,h])
variable{α:Type}
variable{e:TypeId}
variable{sz:Nat}
variable{b:Bool}
variable{xs:List α}
variable{i:Int}
theorem UD(c:α->List U){k:IntKind}{x:α}(hd:T.und t=some (.slice e))(hs:bZ T e=some sz)(hc:∀x,(c x).length=sz)(hx:a8 xs i=some x)(hq:c x=q):uR T σ t (.isl b (xs.map c)) (.int k i)=some (.iptr q):=by
 subst hq;obtain⟨h1,h2,h3⟩:=z2r c hx;have:Nat.beq (c x).length sz=true:=by simp[beq_eq,hc]
 simp only[uR,hd,hs,yA,h1,h2,and_self,if_true,h3,this,zC]
variable{e':TypeId}
variable{K:Nat}
theorem fJ(c:α->List U){st:Nat}{k:IntKind}{x:α}(hd:T.und t=some (.slice e))(hs:bZ T e=some sz)(hz:0<sz)(hc:∀x,(c x).length=sz)(hv:rD σ K st=some ((xs.map c).flatten,e',sz))(hx:a8 xs i=some x):uR T σ t (.vl K st 0 xs.length) (.int k i)=some (.ptr K st (0*sz+i.toNat*sz)):=by
 obtain⟨h1,h2,h3⟩:=PH hx;have hne:=NE hc hz hx;have hb:Nat.beq sz sz=true:=by simp[beq_eq]
 simp only[uR,hd,hs,hv,hb,zC,h1,h2,ne_eq,hne,not_false_eq_true,and_self,if_true]
variable{d:TypeDesc}
theorem OW(c:α->List U){st:Nat}{x:α}(hd:T.und t=some d)(ha:nZ d=true)(hs:bZ T t=some sz)(hc:∀x,(c x).length=sz)(ho:bO n l o=some (.ptr K st (0*sz+i.toNat*sz)))(hv:gt σ.h K=some (.vec (xs.map c).flatten e' sz st))(hx:a8 xs i=some x)(hq:c x=q):bB T σ (fr n l) (.load t o)=some (.agg q,σ):=by
 subst hq;refine FS rfl ?_;have hb:Nat.beq st st=true:=by simp[beq_eq]
 simp only[kI,dY ho,cellsOf,hv,hb,zC,yX,hd,ha,hs,yj hc hx]
theorem u7(c:α->List U){st:Nat}{x:α}(f:α->U)(hd:T.und t=some d)(ha:nZ d=false)(hc:∀x,c x=[f x])(ho:bO n l o=some (.ptr K st (0*1+i.toNat*1)))(hv:gt σ.h K=some (.vec (xs.map c).flatten e' 1 st))(hx:a8 xs i=some x):bB T σ (fr n l) (.load t o)=some (f x,σ):=by
 refine FS rfl ?_;have hb:Nat.beq st st=true:=by simp[beq_eq]
 simp only[kI,dY ho,cellsOf,hv,hb,zC,yX,hd,ha,zD,zbe (fun x=>by rw[hc];rfl) hc hx]
theorem u9{lo hi mx:Option Operand}{a b c:Option Value}(hx:bO n l x=some v)(h1:sA (fr n l) lo=some a)(h2:sA (fr n l) hi=some b)(h3:sA (fr n l) mx=some c)(h:BL T σ t v a b c=some u):bB T σ (fr n l) (.slice t x lo hi mx)=some (u,σ):=qI (by simp only[eU,dY hx,h1,h2,h3,h])
theorem jS:sA (fr n l) none=some none:=rfl
theorem tS{k:IntKind}{z:Int}(h:bO n l o=some (.int k z)):sA (fr n l) (some o)=some (some (.int k z)):=by simp only[sA,dY h]
theorem OR(c:α->List U){a h m:Nat}{ys:List α}{lo hi:Option Value}(hd:T.und t=some (.slice e))(hs:bZ T e=some sz)(hc:∀x,(c x).length=sz)(hb:fF xs.length xs.length lo hi none=some (a,h,m))(hy:mS (xs.map c) a h=ys.map c):BL T σ t (.isl b (xs.map c)) lo hi none=some (.isl (cond b (Nat.beq h xs.length) false) (ys.map c)):=by
 simp only[BL,hd,hs,si hc xs,if_true,yA,hb,hy]
variable{args:Array Operand}
variable{ts:Array TypeId}
theorem JS(ha:args.toList=[x]){q:List TypeId}(ht:ts.toList=t::q)(hx:bO n l x=some v)(h:lenU T σ t v=some u):bB T σ (fr n l) (.call { callee:=.builtin .len,args:=args,argTypes:=ts })=some (u,σ):=qI (by simp only[eU,ha,ht,jJ,dY hx,h])
theorem zah(c:α->List U)(hd:T.und t=some (.slice e)):lenU T σ t (.isl b (xs.map c))=some (.int .i64 xs.length):=by simp[lenU,hd]
theorem kc{xs:List Operand}{a:Value}{b:List Value}(ha:args.toList=x::xs)(hx:bO n l x=some v)(hl:DW n l xs=some us)(h1:toV v=some a)(h2:dK us=some b)(h:sW JP a b=some r)(hr:fU r=some u):bB T σ (fr n l) (.call { callee:=.builtin .max,args:=args,argTypes:=ts })=some (u,σ):=qI (by simp only[eU,ha,jJ,dY hx,UG hl,h1,h2,h,hr])
theorem Uf{xs:List Operand}{a:Value}{b:List Value}(ha:args.toList=x::xs)(hx:bO n l x=some v)(hl:DW n l xs=some us)(h1:toV v=some a)(h2:dK us=some b)(h:sW JO a b=some r)(hr:fU r=some u):bB T σ (fr n l) (.call { callee:=.builtin .min,args:=args,argTypes:=ts })=some (u,σ):=qI (by simp only[eU,ha,jJ,dY hx,UG hl,h1,h2,h,hr])
variable{cs:List U}
theorem fZ{st:Nat}(hd:T.und t=some d)(ha:nZ d=true)(hs:bZ T t=some sz)(hx:bO n l x=some (.ptr k st off))(hc:cellsOf σ k st=some q)(h:iO q off sz=some cs):bB T σ (fr n l) (.load t x)=some (.agg cs,σ):=FS rfl (by simp only[kI,dY hx,hc,yX,hd,ha,hs,h,zC])
theorem lV{st:Nat}(hd:T.und t=some d)(ha:nZ d=false)(hx:bO n l x=some (.ptr k st off))(hc:cellsOf σ k st=some q)(h:nth q off=some u):bB T σ (fr n l) (.load t x)=some (u,σ):=FS rfl (by simp only[kI,dY hx,hc,yX,hd,ha,h,zD])
theorem kp(hd:T.und t=some d)(ha:nZ d=true)(hs:bZ T t=some sz)(hx:bO n l x=some (.iptr q))(h:iO q 0 sz=some cs):bB T σ (fr n l) (.load t x)=some (.agg cs,σ):=FS rfl (by simp only[kI,dY hx,yX,hd,ha,hs,h,zC])
theorem ZE(hd:T.und t=some d)(ha:nZ d=false)(hx:bO n l x=some (.iptr q))(h:nth q 0=some u):bB T σ (fr n l) (.load t x)=some (u,σ):=FS rfl (by simp only[kI,dY hx,yX,hd,ha,h,zD])
theorem QS(hx:bO n l x=some v)(h:sC v=some cs)(hk:okL cs=true):bB T σ (fr n l) (.box e x)=some (.ptr σ.nx 0 0,cY σ (.row cs e)):=AL rfl rfl (by simp only[kL,dY hx,h,hk,zC])
variable{z:Value}
theorem gf{a b:Nat}{zu:List U}(hi:T.inf e=some (a,b,z))(hz:mR z.cells.toList=some zu)(hk:okL zu=true):bB T σ (fr n l) (.alloc e)=some (.ptr σ.nx 0 0,cY σ (.row zu e)):=AL rfl rfl (by simp only[kL,hi,hz,hk,zC])
theorem ge{st:Nat}{q':List U}(hs:bZ T t=some sz)(ha:bO n l a=some (.ptr k st off))(hx:bO n l x=some v)(hc:sC v=some cs)(hl:Nat.beq cs.length sz=true)(hk:okL cs=true)(hg:cellsOf σ k st=some q)(hp:mQ q off (yT σ k cs)=some q')(hσ:ED σ k q'=some σ'):bB T σ (fr n l) (.store t a x)=some (.junk,σ'):=AL rfl rfl (by simp only[kL,dY ha,dY hx,OQ,hs,hc,hl,hk,zC,hg,hp,hσ])
theorem Ew{ps:Array (Nat×Operand)}{qs:List (Nat×U)}{q:U×Sg}(h:AP n l ps.toList=some qs)(hb:Aw T σ t k qs=some q):bB T σ (fr n l) (.buildSlice t k ps)=some q:=AL rfl rfl (by simp only[kL,Un h,hb])
theorem Ev{q:U×Sg}(hx:bO n l x=some v)(hy:bO n l y=some w)(hb:XN T σ t v w=some q):bB T σ (fr n l) (.makeSlice t x y)=some q:=AL rfl rfl (by simp only[kL,dY hx,dY hy,hb])
variable{xt:TypeId}
theorem pV{q:U×Sg}(ha:args.toList=[x,y])(ht:ts.toList=[t,xt])(hx:bO n l x=some v)(hy:bO n l y=some w)(h:EN T σ t xt v w=some q):bB T σ (fr n l) (.call { callee:=.builtin .append,args:=args,argTypes:=ts })=some q:=AL rfl rfl (by simp only[kL,ha,ht,jJ,dY hx,dY hy,Mt,h])
theorem fT{c:Call}{f:Operand}{g:FuncId}{fn:Func}{first cap as:List U}(hc:c.callee=.value f)(hf:bO n l f=some (.fn (.func g) first cap))(hg:T.fn g=some fn)(hb:fn.body.isSome=true)(ha:DW n l c.args.toList=some as){args:List U}(he:first++as++cap=args):i9 T (fr n l) (.call c)=some (g,args):=by subst he;simp only[i9,hc,dY hf,hg,hb,zC,UG ha]
variable{e2:TypeId}
variable{by_:Nat}
theorem Wg(c:α->List U)(ys:List α)(hd:T.und t=some (.slice e))(cK:T.und xt=some (.slice e2))(hi:T.inf e=some (sz+1,by_,z))(hz:Nat.beq z.cells.toList.length (sz+1)=true)(hw:rC σ (sz+1) w=some (ys.length,(ys.map c).flatten))(hr:ys.length*by_<=140737488355328/\ys.length<=140737488355328):EN T σ t xt .nils w=some (.vl σ.nx 0 0 ys.length,cY σ (.vec (ys.map c).flatten e (sz+1) 0)):=by
 simp only[EN,hd,cK,hi,hz,zC,hw,hr,and_self,if_true]
theorem EO(c:α->List U)(ys:List α){a:Nat}(hd:T.und t=some (.slice e))(cK:T.und xt=some (.slice e2))(hi:T.inf e=some (sz+1,by_,z))(hz:Nat.beq z.cells.toList.length (sz+1)=true)(hq:rowOf σ a=some q)(ho:Nat.ble off q.length=true)(hw:rC σ (sz+1) w=some (ys.length,(ys.map c).flatten))(hr:ys.length*by_<=140737488355328/\ys.length<=140737488355328):EN T σ t xt (.sl a off 0 0) w=some (.vl σ.nx 0 0 ys.length,cY σ (.vec (ys.map c).flatten e (sz+1) 0)):=by
 have ho':=zY ho;have:iO q off (0*(sz+1))=some []:=by simp[iO,ho']
 simp only[EN,hd,cK,hi,hz,zC,hw,hq,this,hr,and_self,if_true]
theorem JU(c:α->List U)(ys:List α){a st:Nat}(hd:T.und t=some (.slice e))(cK:T.und xt=some (.slice e2))(hi:T.inf e=some (sz+1,by_,z))(hz:Nat.beq z.cells.toList.length (sz+1)=true)(hc:∀x,(c x).length=sz+1)(hg:gt σ.h a=some (.vec (xs.map c).flatten e (sz+1) st))(hw:rC σ (sz+1) w=some (ys.length,(ys.map c).flatten))(hr:(xs.length+ys.length)*by_<=140737488355328/\xs.length+ys.length<=140737488355328):EN T σ t xt (.vl a st 0 xs.length) w=some (.vl a (st+1) 0 (xs++ys).length,⟨ug σ.h a (.vec ((xs++ys).map c).flatten e (sz+1) (st+1)),σ.nx⟩):=by
 have b1:Nat.beq st st=true:=by simp[beq_eq]
 have b2:Nat.beq e e=true:=by simp[beq_eq]
 have b3:Nat.beq (sz+1) (sz+1)=true:=by simp[beq_eq]
 have hs:=zb5 hc xs;have hl:=ER hc xs;rw[z6s,zU];simp only[EN,hd,cK,hi,hz,zC,hw,hg,b1,b2,b3,hs,hl,hr.1,hr.2,true_and,and_true,or_true,if_true]
theorem zR(c:α->List U)(hc:∀x,(c x).length=sz):rC σ sz (.isl b (xs.map c))=some (xs.length,(xs.map c).flatten):=by simp only[rC,si hc xs,if_true,yA]
theorem ZP(c:α->List U)(ys:List α)(hq:rowOf σ K=some q)(hs:iO q off (k*sz)=some cs)(hl:k=ys.length)(hc:nU cs=(ys.map c).flatten):rC σ sz (.sl K off k k)=some (ys.length,(ys.map c).flatten):=by
 subst hl;simp only[rC,hq,hs,hc]
theorem aR{a b:Nat}(h:T.inf t=some (a,b,z)):bZ T t=some a:=by simp only[bZ,h]
theorem vo{st:Nat}(h:gt σ.h K=some (.vec q e sz st)):rD σ K st=some (q,e,sz):=by
 have b:Nat.beq st st=true:=by simp[beq_eq]
 simp only[rD,h,b,zC]
theorem kq{st m:Nat}(hd:T.und t=some (.slice e))(h:gt σ.h K=some (.vec q e' sz st)):lenU T σ t (.vl K st 0 m)=some (.int .i64 m):=by
 have b:Nat.beq st st=true:=by simp[beq_eq]
 simp only[lenU,hd,bH,h,B.st,b,zC]
end
theorem RC(k:IntKind)(a b:Int):iG .add k a k b=some (.int k (k.wrap (a+b))):=by simp[iG]
theorem kr(k:IntKind)(a b:Int):iG .sub k a k b=some (.int k (k.wrap (a-b))):=by simp[iG]
theorem R6(k:IntKind)(a b:Int):iG .mul k a k b=some (.int k (k.wrap (a*b))):=by simp[iG]
theorem Lk(k:IntKind){a b:Int}(h:¬ b=0):iG .quo k a k b=some (.int k (k.wrap (a.tdiv b))):=by simp[iG,h]
theorem kx(k:IntKind){a b:Int}(h:¬ b=0):iG .rem k a k b=some (.int k (a.tmod b)):=by simp[iG,h]
theorem Ui(k:IntKind)(a b:Int):iG .eql k a k b=some (.bool (a==b)):=by simp[iG]
theorem R5(k:IntKind)(a b:Int):iG .neq k a k b=some (.bool (a != b)):=by simp[iG]
theorem R7(k:IntKind)(a b:Int):iG .lss k a k b=some (.bool (decide (a<b))):=by simp[iG]
theorem R8(k:IntKind)(a b:Int):iG .leq k a k b=some (.bool (decide (a<=b))):=by simp[iG]
theorem R9(k:IntKind)(a b:Int):iG .gtr k a k b=some (.bool (decide (a>b))):=by simp[iG]
theorem RB(k:IntKind)(a b:Int):iG .geq k a k b=some (.bool (decide (a>=b))):=by simp[iG]
theorem Gh.row{n0:Nat}{tm:List U}{σ:Sg}{K:Nat}{q q':List U}{e:TypeId}(hg:gt σ.h K=some (.row q e))(hk:okL q'=true)(hrel:∀x vs,x.σ=σ->iC x->aX x q vs->aX x q' vs):Gh n0 tm σ tm ⟨ug σ.h K (.row q' e),σ.nx⟩:=fun F x tv hx hr hf he=>by
 subst hx
 let y:Cx:=⟨x.ρ,⟨ug x.σ.h K (.row q' e),x.σ.nx⟩,x.s⟩
 have hgt:∀k,gt y.σ.h k=if K=k then some (.row q' e)else gt x.σ.h k:=fun k=>by show gt (ug x.σ.h K (.row q' e)) k=_;rw[uO,hg];rfl
 have hmo:Mo x.σ.nx x y:=⟨fun k _ h2=>⟨h2,fun b hb=>by rw[hgt]at hb;by_cases ek:K=k;subst ek;simp only[if_true,zA]at hb;subst hb;exact⟨_,hg,zF _,fun _=>⟨rfl,fun l e sz st h=>by cases h⟩⟩;simp only[ek,if_false]at hb;exact⟨b,hb,zF _,fun _=>⟨rfl,fun l e sz st h=>⟨l,h⟩⟩⟩⟩,fun _ _ _ h=>h⟩;refine⟨y,fun m w hf=>bD.refl hf,rfl,⟨fun k b hb=>?_,fun k k' b b' i hb hb'=>?_,hr.bd⟩,fun i b J=>?_,hmo.ke.E he.bel he,fun u v hb hr=>hmo.ke u v (aA.bel u v hr) hr⟩;rw[hgt]at hb;by_cases ek:K=k;subst ek;simp only[if_true,zA]at hb;subst hb;obtain⟨h1,k1,i,l',e1,e2,e3⟩:=hr.ok K _ hg;have:=hrel x l' rfl hr e3;exact⟨h1,hk,i,l',e1,e2,hmo.ke.E this.bel this⟩;simp only[ek,if_false]at hb;obtain⟨h1,h2⟩:=hr.ok k b hb;exact⟨h1,h2.mono hmo rfl fun _ _ _ h=>h⟩;have old:∀k b,gt y.σ.h k=some b->∃c,gt x.σ.h k=some c:=fun k b hb=>by rw[hgt]at hb;by_cases ek:K=k;subst ek;exact⟨_,hg⟩;simp only[ek,if_false]at hb;exact⟨b,hb⟩
 obtain⟨c,hc⟩:=old k b hb;obtain⟨c',hc'⟩:=old k' b' hb';exact hr.inj k k' c c' i hc hc';obtain⟨h1,h2⟩:=hf i b J;refine⟨h1,fun k c hc=>?_⟩;rw[hgt]at hc;by_cases ek:K=k;subst ek;exact h2 _ _ hg;simp only[ek,if_false]at hc;exact h2 k c hc
theorem Gh.fresh{n0:Nat}{tm:List U}{σ:Sg}(e:TypeId)(sz:Nat)(hsz:0<sz)(h0:n0<=σ.nx):Gh n0 tm σ tm (cY σ (.vec [] e sz 0)):=fun F x tv hx hr hf he=>by
 subst hx;have ho:=Mw hr e sz hsz;exact⟨⟨jI x.ρ x.σ.nx none,cY x.σ (.vec [] e sz 0),x.s⟩,fun m w hf=>bD.refl hf,rfl,ho.h,ho.fr F hf,ho.mo.ke.E he.bel he,ho.mo.ke.le h0⟩
theorem rN{n0:Nat}{tm:List U}{σ:Sg}(K i:Nat){q:List U}{e0:TypeId}(e:TypeId)(sz:Nat)(hsz:0<sz)(h0:n0<=σ.nx)(hg:gt σ.h K=some (.row q e0))(hi:nth q i=some .nils):Gh n0 tm σ tm ⟨ug (cY σ (.vec [] e sz 0)).h K (.row (q.set i (.vl σ.nx 0 0 0)) e0),σ.nx+1⟩:=fun F x tv hx hr hf he=>by
 subst hx;have hK:=(hr.ok K _ hg).1;obtain⟨_,k1,_⟩:=hr.ok K _ hg;have ho:=Mw hr e sz hsz;rw[gG]at hi
 let y:Cx:=⟨jI x.ρ x.σ.nx none,cY x.σ (.vec [] e sz 0),x.s⟩
 have hgy:gt y.σ.h K=some (.row q e0):=by show gt ((x.σ.nx,_)::x.σ.h) K=_;rw[d8,if_neg (by omega),hg]
 let z:Cx:=⟨y.ρ,⟨ug y.σ.h K (.row (q.set i (.vl x.σ.nx 0 0 0)) e0),y.σ.nx⟩,y.s⟩
 have hgt:∀k,gt z.σ.h k=if K=k then some (.row (q.set i (.vl x.σ.nx 0 0 0)) e0)else gt y.σ.h k:=fun k=>by show gt (ug y.σ.h K _) k=_;rw[uO,hgy];rfl
 have hmo:Mo y.σ.nx y z:=⟨fun k _ h2=>⟨h2,fun b hb=>by rw[hgt]at hb;by_cases ek:K=k;subst ek;simp only[if_true,zA]at hb;subst hb;exact⟨_,hgy,zF _,fun _=>⟨rfl,fun l e sz st h=>by cases h⟩⟩;simp only[ek,if_false]at hb;exact⟨b,hb,zF _,fun _=>⟨rfl,fun l e sz st h=>⟨l,h⟩⟩⟩⟩,fun _ _ _ h=>h⟩;have hey:=ho.mo.ke.E he.bel he;have hfy:=ho.fr F hf;refine⟨z,fun m w hf=>bD.refl hf,rfl,⟨fun k b hb=>?_,fun k k' b b' j hb hb'=>?_,ho.h.bd⟩,fun j b J=>?_,hmo.ke.E hey.bel hey,fun u v hb hr=>hmo.ke u v (aA.bel u v (ho.mo.ke.le h0 u v hb hr)) (ho.mo.ke.le h0 u v hb hr)⟩;rw[hgt]at hb;by_cases ek:K=k;subst ek;simp only[if_true,zA]at hb;subst hb;obtain⟨h1,k1,j,l',e1,e2,e3⟩:=ho.h.ok K _ hgy;refine⟨h1,?_,j,l',e1,e2,?_⟩;refine(GO _).2 fun u hu=>?_;rcases List.mem_or_eq_of_mem_set hu with h |h
 exact(GO q).1 k1 u h;subst h;rfl;obtain⟨v,h3,h4⟩:=e3.get hi;simp only[aA]at h4;subst h4;have:=e3.set i (Yv (x:=x) (e:=e) (sz:=sz) (o:=none) (by simp));rw[pe h3]at this;exact hmo.ke.E this.bel this;simp only[ek,if_false]at hb;obtain⟨h1,h2⟩:=ho.h.ok k b hb;exact⟨h1,h2.mono hmo rfl fun _ _ _ h=>h⟩;have old:∀k b,gt z.σ.h k=some b->∃c,gt y.σ.h k=some c:=fun k b hb=>by rw[hgt]at hb;by_cases ek:K=k;subst ek;exact⟨_,hgy⟩;simp only[ek,if_false]at hb;exact⟨b,hb⟩
 obtain⟨c,hc⟩:=old k b hb;obtain⟨c',hc'⟩:=old k' b' hb';exact ho.h.inj k k' c c' j hc hc';obtain⟨h1,h2⟩:=hfy j b J;refine⟨h1,fun k c hc=>?_⟩;rw[hgt]at hc;by_cases ek:K=k;subst ek;exact h2 _ _ hgy;simp only[ek,if_false]at hc;exact h2 k c hc
theorem jD(k:IntKind)(x:Int):(cI k x).length=1:=rfl
theorem GK(x:List UInt8):(cS x).length=1:=rfl
theorem JT{α:Type}(c:α->List U)(x:List α):(cL c x).length=1:=rfl
section
variable{T:Tb}{σ σ':Sg}{n:Nat}{l:List (Nat×U)}{u v w:U}
theorem jo{a b:List UInt8}(h:a.length+b.length<=9223372036854775807):B5 .add ⟨⟨a⟩⟩ ⟨⟨b⟩⟩=some (.string ⟨(a++b).toArray⟩):=by
 have:¬ (((a.length+b.length:Nat):Int)>9223372036854775807):=by omega
 simp only[B5,this,if_false]
end
theorem aY.post{P:Program}{f:FuncId}{args:List U}{σ:Sg}{R R':U->Sg->Prop}(h:aY P f args σ R)(hg:∀u σ1,R u σ1->∃u' IQ,σ.nx<=IQ.nx/\Gh σ.nx [u] σ1 [u'] IQ/\R' u' IQ):aY P f args σ R':=fun F x vs m w cargs hx hh hfr he hfit hargs=>by
 refine(h F x vs m w cargs hx hh hfr he hfit hargs).mono ?_;rintro e w₁ ⟨y,aC,u,v,cv,h1,h2,h3,h4,h5,h6,h7,h8,h9⟩;obtain⟨u',IQ,g1,g2,g3⟩:=hg u y.σ h2;obtain⟨z,z1,z2,z3,z4,z5,z6⟩:=g2 F y [v] rfl h5 h6 (aX.cons h7 (aX.nil y));obtain⟨v0,XZ,e0,z7,_⟩:=z5.inv;cases e0;have hadv2:=z1 aC w₁ h3.fits;exact⟨z,aC,u',v,cv,h1,z2 ▸ g3,h3.trans hadv2,h4.ext (aH.refl _ _) hadv2.nx,z3,z4,z7,by rw[hx]at h8 ⊢;exact h8.trans z6,by rw[hx,z2];exact g1⟩
mutual
theorem Vt(π:Nat->Nat):(u:U)->aU 0 u->rU π u=u
 |.ptr k _ _,h=>by simp[aU]at h
 |.sl k _ _ _,h=>by simp[aU]at h
 |.vl k _ _ _,h=>by simp[aU]at h
 |.map k,h=>by simp[aU]at h
 |.iptr l,h=>by simp only[aU]at h;simp[rU,EP π l h]
 |.isl t l,h=>by simp only[aU]at h;simp[rU,Ws π l h]
 |.fn f a b,h=>by simp only[aU]at h;simp[rU,EP π a h.1,EP π b h.2]
 |.agg l,h=>by simp only[aU]at h;simp[rU,EP π l h]
 |.tup l,h=>by simp only[aU]at h;simp[rU,EP π l h]
 |.junk,_=>rfl|.bool _,_=>rfl
 |.int _ _,_=>rfl|.str _,_=>rfl
 |.nilp,_=>rfl|.nils,_=>rfl
 |.nilm,_=>rfl|.nilf,_=>rfl
 |.nili,_=>rfl
theorem EP(π:Nat->Nat):(l:List U)->aG 0 l->gJ π l=l
 |[],_=>rfl|u::l,h=>by simp only[aG]at h;simp[gJ,Vt π u h.1,EP π l h.2]
theorem Ws(π:Nat->Nat):(l:List (List U))->jV 0 l->sR π l=l
 |[],_=>rfl|c::l,h=>by simp only[jV]at h;simp[sR,EP π c h.1,Ws π l h.2]
end
section
variable{P:Program}{T:Tb}{ops r:List Oper}{o:Oper}{n:Nat}{l:List (Nat×U)}{σ:Sg}{K:List U->Sg->Prop}
theorem lB{C:PG}{f:FuncId}{args:List U}{R:U->Sg->Prop}(hw:bW ops (fr n l) o=some true)(hc:i9 T (fr n l) o.op=some (f,args))(hev:aY C.prog f args σ R){d:Tmp}(he:o.dst=some d)(hd:Nat.blt d n=true)(hk:∀u σ',R u σ'->RU C T ops r (fr n ((d,u)::l)) σ' K):RU C T ops (o::r) (fr n l) σ K :=
 RU.call hw hc hev (fun u σ' h=>by rw[he,oL (d:=some d) u hd];exact hk u σ' h)
end
section
variable{Q:Exit->List U->Sg->Prop}{K:List U->Sg->Prop}{tm:List U}{σ:Sg}{i j n0:Nat}{E:List U->Sg->Prop}
theorem q1(h:K tm σ):wY K Q .normal tm σ:=h
theorem q2(h:Q (.exit i) tm σ):wY K Q (.exit i) tm σ:=h
theorem q3(h:Q .ret tm σ):wY K Q .ret tm σ:=h
theorem q4(h:Q .normal tm σ):uS i Q .normal tm σ:=h
theorem q5(h:Q .ret tm σ):uS i Q .ret tm σ:=h
theorem q6(h:Q .normal tm σ):uS i Q (.exit i) tm σ:=Ga h
theorem q7(hij:¬ j=i)(h:Q (.exit j) tm σ):uS i Q (.exit j) tm σ:=Fz hij h
theorem q8(h:∃tm' σ',E tm' σ'/\n0<=σ'.nx/\Gh n0 tm σ tm' σ'):JM n0 E Q .normal tm σ:=h
theorem q9(h:Q .ret tm σ):JM n0 E Q .ret tm σ:=h
theorem q0(h:Q (.exit i) tm σ):JM n0 E Q (.exit i) tm σ:=h
end
theorem yl:∀{h:List (Nat×B)}{k:Nat}{b:B},gt h k=some b->ug h k b=h
 |[],k,b,hg=>by cases hg
 |(j,c)::h,k,b,hg=>by simp only[gt,ug,beq_eq]at*;by_cases e:j=k;subst e;simp only[yC,zC,zA]at*;rw[hg];simp only[e,yB,zD]at*;rw[yl hg]
variable{n:Nat}
theorem bD.trunc{m:Nm}{s:S}{w:World}(hf:fK m s w){i:Nat}{l:List Value}{e:Nat}(hl:lk s.h i=some (.inl (l,e,n+2)))(j:Nat):bD m s w m ⟨up s.h i (.inl (l.take j,e,n+2)),s.nx⟩ w:=by
 refine bD.write hf hl rfl (fun k hk=>rfl) rfl rfl rfl rfl (zF _) fun m' ha=>?_;obtain⟨pre,rest,h1,h2,h3⟩:=(hf m' ha).ok i _ hl;refine⟨pre,aE m' (l.drop j)++rest,?_,h2,?_⟩;rw[h1];congr 3;have:aE m' l=aE m' (l.take j)++aE m' (l.drop j):=by rw[<-tD,List.take_append_drop]
 rw[this];simp[zT];have e1:(aE m' (l.drop j)).length=l.length-j:=by rw[jX];simp
 rw[zU,e1,List.length_take];omega
theorem Gh.trunc{n0:Nat}{tm:List U}{σ:Sg}{K:Nat}{l:List U}{e:TypeId}{sz st:Nat}(hg:gt σ.h K=some (.vec l e sz st))(j:Nat):Gh n0 tm σ tm ⟨ug σ.h K (.vec (l.take j) e sz st),σ.nx⟩:=fun F x tv hx hr hf he=>by
 subst hx;obtain⟨_,k1,k2,k3⟩:=hr.ok K _ hg;rcases k3 with⟨rfl,hno⟩|⟨i,lv,h1,h2,h3⟩;rw[List.take_nil,yl hg];exact⟨x,fun m w hf=>bD.refl hf,rfl,hr,hf,he,Ke.refl _ _⟩;have ho:=UZ hr (c:=.inl (lv.take j,e,sz+2)) (bK:=.vec (l.take j) e sz st) hg h1 h2 rfl (by rintro l e sz st h;cases h;exact⟨_,rfl⟩) fun y q1 q2 hm=>⟨GW k1 j,k2,.inr ⟨i,lv.take j,q1,q2,(hm.ke.E h3.bel h3).take j⟩⟩
 refine⟨_,fun m w hf=>bD.trunc hf h2 j,rfl,ho.h,ho.fr F hf,?_,?_⟩;exact he.mono ho.mo he.bel;exact fun u v hb hv=>aA.mono ho.mo u v (aA.bel u v hv) hv
variable{α:Type}
variable{n0:Nat}
variable{tm:List U}
variable{σ:Sg}
variable{K:Nat}
variable{xs:List α}
variable{e:TypeId}
variable{sz:Nat}
theorem Gh.truncL(c:α->List U){st:Nat}(hc:∀x,(c x).length=sz)(hg:gt σ.h K=some (.vec (xs.map c).flatten e sz st))(j:Nat):Gh n0 tm σ tm ⟨ug σ.h K (.vec ((xs.take j).map c).flatten e sz st),σ.nx⟩:=by
 have:=Gh.trunc (n0:=n0) (tm:=tm) hg (j*sz)
 rwa [Yc hc]at this
theorem VB(p:Nat->Bool):∀(h:List (Nat×B))(k:Nat),gt (h.filter fun x=>p x.1) k=if p k then gt h k else none
 |[],k=>by simp[gt]
 |(j,b)::h,k=>by
  rw[List.filter_cons];cases hp:p j with
  |true=>simp only[if_true,d8,VB p h k];by_cases e:j=k;subst e;simp[hp];simp[e]|false=>simp only[Bool.false_eq_true,if_false,VB p h k,d8];by_cases e:j=k;subst e;simp[hp];simp[e]
theorem TO(p:Nat->Bool):Gh n0 tm σ tm ⟨σ.h.filter fun x=>p x.1,σ.nx⟩:=fun F x tv hx hr hf he=>by
 subst hx;have mo:∀n,Mo n x ⟨x.ρ,⟨x.σ.h.filter fun y=>p y.1,x.σ.nx⟩,x.s⟩:=fun n=>⟨fun k _ h2=>⟨h2,fun b' hb'=>by simp only[VB]at hb';split at hb';exact⟨b',hb',zF _,fun _=>⟨rfl,fun l e sz st h=>⟨l,h⟩⟩⟩;cases hb'⟩,fun _ _ _ h=>h⟩;refine⟨⟨x.ρ,⟨x.σ.h.filter fun y=>p y.1,x.σ.nx⟩,x.s⟩,fun m w hf=>bD.refl hf,rfl,⟨?_,?_,hr.bd⟩,?_,he.mono (mo _) he.bel,fun u v hb hv=>aA.mono (mo _) u v (aA.bel u v hv) hv⟩;intro k b hb;simp only[VB]at hb;split at hb;obtain⟨h1,h2⟩:=hr.ok k b hb;exact⟨h1,h2.mono (mo _) rfl (fun i c _ h=>h)⟩;cases hb;intro k k' b b' i hb hb' h1 h2;simp only[VB]at hb hb';split at hb;split at hb';exact hr.inj k k' b b' i hb hb' h1 h2;cases hb';cases hb;intro i b J;obtain⟨h1,h2⟩:=hf i b J;refine⟨h1,fun k c hc=>?_⟩;simp only[VB]at hc;split at hc;exact h2 k c hc;cases hc
def jR{α:Type}(l:List α)(off n:Nat)(i:Int):Option α:=if 0<=i/\i<(n:Int)then l[off+i.toNat]? else none
variable{off:Nat}
variable{i:Int}
variable{x:α}
theorem PF{l:List α}(h:jR l off n i=some x):0<=i/\i<(n:Int)/\l[off+i.toNat]? = some x:=by
 unfold jR at h;split at h;rename_i hi;exact⟨hi.1,hi.2,h⟩;cases h
section
variable{α:Type}{c:α->List U}{sz:Nat}(hc:∀x,(c x).length=sz)
include hc
theorem Wc{xs:List α}{j:Nat}{x:α}(h:xs[j]? = some x):iO (xs.map c).flatten (j*sz) sz=some (c x):=by
 have hj:=(zG.1 h).1;unfold iO;rw[ER hc,Nb hc];have e:xs.drop j=x::xs.drop (j+1):=by rw[List.drop_eq_getElem_cons hj];congr;exact(zG.1 h).2
 rw[e,if_pos (by rw[<-Nat.succ_mul];exact Nat.mul_le_mul_right _ hj)];simp only[zQ,List.flatten_cons];have:=hc x;rw[<-this,List.take_left'];rfl
theorem Xc{xs:List α}{j:Nat}(h:j<xs.length)(x:α):mQ (xs.map c).flatten (j*sz) (c x)=some ((xs.set j x).map c).flatten:=by
 unfold mQ;rw[ER hc,hc,if_pos (by rw[<-Nat.succ_mul];exact Nat.mul_le_mul_right _ h),<-Nat.succ_mul,Nb hc,Yc hc,List.set_eq_take_append_cons_drop,if_pos h];simp
end
section
variable{T:Tb}{σ σ':Sg}{n:Nat}{l:List (Nat×U)}{u v w:U}
theorem qzu{q:List U}{j:Nat}{u:U}(h:iO q j 1=some [u]):nth q j=some u:=by
 unfold iO at h;split at h;rename_i hj;simp only[zA]at h;rw[gG];have:((q.drop j).take 1)[0]? = some u:=by rw[h];rfl
 simpa using this;cases h
variable{m:Nat}
theorem TQ(c:α->List U){t e':TypeId}{st:Nat}{y:α}{o z:Operand}{cs:List U}{h':List (Nat×B)}(hs:bZ T t=some sz)(hc:∀x,(c x).length=sz)(ho:bO n l o=some (.ptr K st (off*sz+i.toNat*sz)))(hz:bO n l z=some v)(hcs:sC v=some cs)(hk:okL cs=true)(hl:Nat.beq cs.length sz=true)(hy:nU cs=c y)(hv:gt σ.h K=some (.vec (xs.map c).flatten e' sz st))(hx:jR xs off m i=some x)(hσ:ug σ.h K (.vec ((xs.set (off+i.toNat) y).map c).flatten e' sz st)=h'):bB T σ (fr n l) (.store t o z)=some (.junk,⟨h',σ.nx⟩):=by
 subst hσ;have hb:Nat.beq st st=true:=by simp
 have hj:=(zG.1 (PF hx).2.2).1;have hp:=Xc hc hj y;rw[Nat.add_mul]at hp;exact AL rfl rfl (by simp only[kL,dY ho,dY hz,OQ,hs,hcs,hl,hk,zC,cellsOf,hv,hb,yT,hy,hp,ED])
theorem lW(h:a8 xs i=some x):jR xs 0 xs.length i=some x:=by
 obtain⟨h1,h2,h3⟩:=PH h;unfold jR;rw[if_pos ⟨h1,h2⟩,Nat.zero_add];exact h3
theorem GD(c:α->List U){t e':TypeId}{st a h q:Nat}{lo hi:Option Value}(hd:T.und t=some (.slice e))(hs:bZ T e=some sz)(hc:∀x,(c x).length=sz)(hv:rD σ K st=some ((xs.map c).flatten,e',sz))(hm:off+m<=xs.length)(hb:fF m m lo hi none=some (a,h,q)):BL T σ t (.vl K st off m) lo hi none=some (.vl K st (off+a) (h-a)):=by
 have b:Nat.beq sz sz=true:=by simp[beq_eq]
 have hl:(off+m)*sz<=(xs.map c).flatten.length:=by rw[ER hc];exact Nat.mul_le_mul_right _ hm
 simp only[BL,hd,hs,hv,b,zC,hb,hl,if_true]
theorem Lb(c:α->List U){st:Nat}(hc:∀x,(c x).length=sz)(hv:rD σ K st=some ((xs.map c).flatten,e,sz))(hm:off+m<=xs.length):rC σ sz (.vl K st off m)=some (((xs.drop off).take m).length,(((xs.drop off).take m).map c).flatten):=by
 have b:Nat.beq sz sz=true:=by simp[beq_eq]
 have hl:off*sz+m*sz<=(xs.map c).flatten.length:=by rw[ER hc,<-Nat.add_mul];exact Nat.mul_le_mul_right _ hm
 have e1:((xs.drop off).take m).length=m:=by simp;omega
 simp only[rC,hv,b,zC,iO,hl,if_true,Nb hc,Yc hc,e1]
end
class TL(a b:Nat):Prop where
 h:a<b
instance{b:Nat}:TL 0 (b+1):=⟨Nat.succ_pos _⟩
instance{a b:Nat}[q:TL a b]:TL (a+1) (b+1):=⟨Nat.succ_lt_succ q.h⟩
class BF{α:Type}(c:α->List U):Prop where
 h:∀n x,aG n (c x)
instance(k:IntKind):BF (cI k):=⟨fun n x=>UK n k x⟩
instance:BF cS:=⟨yd⟩
instance{α:Type}(c:α->List U)[q:BF c]:BF (cL c):=⟨fun n x=>TD n (q.h n) x⟩
class BU(n:Nat)(u:U):Prop where
 h:aU n u
class dQ(n:Nat)(l:List U):Prop where
 h:aG n l
instance(n:Nat):dQ n []:=⟨by simp[aG]⟩
instance(n:Nat)(u:U)(l:List U)[a:BU n u][b:dQ n l]:dQ n (u::l):=⟨by simp only[aG];exact⟨a.h,b.h⟩⟩
instance{α:Type}(n:Nat)(c:α->List U)(l:List α)[q:BF c]:dQ n (l.map c).flatten:=⟨uT n (q.h n) l⟩
instance(n:Nat)(b:Bool):BU n (.bool b):=⟨by simp[aU]⟩
instance(n:Nat)(k:IntKind)(z:Int):BU n (.int k z):=⟨by simp[aU]⟩
instance(n:Nat)(s:List UInt8):BU n (.str s):=⟨by simp[aU]⟩
instance(n:Nat):BU n .nils:=⟨by simp[aU]⟩
instance(n k st off:Nat)[q:TL k n]:BU n (.ptr k st off):=⟨by simp only[aU];exact q.h⟩
instance(n k off m c:Nat)[q:TL k n]:BU n (.sl k off m c):=⟨by simp only[aU];exact q.h⟩
instance(n k st off m:Nat)[q:TL k n]:BU n (.vl k st off m):=⟨by simp only[aU];exact q.h⟩
instance(n k:Nat)[q:TL k n]:BU n (.map k):=⟨by simp only[aU];exact q.h⟩
instance(n:Nat)(l:List U)[q:dQ n l]:BU n (.iptr l):=⟨by simp only[aU];exact q.h⟩
instance(n:Nat)(l:List U)[q:dQ n l]:BU n (.agg l):=⟨by simp only[aU];exact q.h⟩
instance(n:Nat)(l:List U)[q:dQ n l]:BU n (.tup l):=⟨by simp only[aU];exact q.h⟩
instance(n:Nat)(f:Fn)(a b:List U)[p:dQ n a][q:dQ n b]:BU n (.fn f a b):=⟨by simp only[aU];exact⟨p.h,q.h⟩⟩
instance{α:Type}(n:Nat)(t:Bool)(c:α->List U)(l:List α)[q:BF c]:BU n (.isl t (l.map c)):=⟨by simp only[aU];exact pJ c (q.h n) l⟩
instance(n:Nat)(t:Bool):BU n (.isl t []):=⟨by simp[aU,jV]⟩
class BS(n:Nat)(l:List (Nat×U)):Prop where
 h:FW n l
instance(n:Nat):BS n []:=⟨by simp[FW]⟩
instance(n i:Nat)(u:U)(l:List (Nat×U))[a:BU n u][b:BS n l]:BS n ((i,u)::l):=⟨by simp only[FW];exact⟨a.h,b.h⟩⟩
class XK{α:Type}(f:α->U):Prop where
 h:∀n x,aU n (f x)
instance(k:IntKind):XK (fun x:Int=>U.int k x):=⟨fun n x=>by simp[aU]⟩
class BB(n:Nat)(b:B):Prop where
 h:kH n b
instance(n:Nat)(l:List U)(e:TypeId)[q:dQ n l]:BB n (.row l e):=⟨by simp only[kH];exact q.h⟩
instance(n:Nat)(l:List U)(e:TypeId)(sz st:Nat)[q:dQ n l]:BB n (.vec l e sz st):=⟨by simp only[kH];exact q.h⟩
class BH(n:Nat)(h:List (Nat×B)):Prop where
 h:yP n h
instance(n:Nat):BH n []:=⟨by simp[yP]⟩
instance(n k:Nat)(b:B)(h:List (Nat×B))[p:BB n b][q:BH n h]:BH n ((k,b)::h):=⟨by simp only[yP];exact⟨p.h,q.h⟩⟩
theorem Gh.toC{n1:Nat}{l l':List (Nat×U)}{h':List (Nat×B)}(ht:AK l l')(hs:Vx.cut n1 σ.h=h')(h1:n0<=n1)(h2:n1<=σ.nx)[hb:BS n1 l'][hh:BH n1 h']:Gh n0 (fr n l) σ (fr n l') ⟨h',n1⟩:=Gh.toS ht (by rw[hs]) h1 h2 hb.h hh.h
theorem pN(u:U)(ht:tm=[u])[q:BU 0 u]:Gh 0 tm σ [u] ⟨[],0⟩:=by
 subst ht;refine Gh.to (n1:=0) [] rfl ?_ (zF _) (Nat.zero_le _) (by simp only[aG];exact⟨q.h,trivial⟩) (by simp[yP]);have:∀h:List (Nat×B),Vx.cut 0 h=[]:=by
  intro h;induction h with
  |nil=>rfl|cons x h ih=>obtain⟨k,b⟩:=x;simp only[Vx.cut,ih];rfl
 rw[this]
variable{P:Program}
variable{f:FuncId}
theorem Ts{args:List U}{u:U}(h:aY P f args ⟨[],0⟩ (fun u' _=>u'=u/\aU 0 u'))[q:dQ 0 args](σ:Sg):aY P f args σ (fun u' σ'=>u'=u/\σ'=σ):=aY.pure1 h q.h σ
theorem DT{args args':List U}{u:U}(h:nO args args')(hev:∀s,aY P f args' s (fun u' σ'=>u'=u/\σ'=s))(σ:Sg):aY P f args σ (fun u' σ'=>u'=u/\σ'=σ):=aY.ghost (Gh.wk h) (zF _) (hev σ)
class Stp(A:Prop)(B:outParam Prop):Prop where
 h:B->A
section
variable{Q:Exit->List U->Sg->Prop}{K:List U->Sg->Prop}{tm:List U}{σ:Sg}{i j n0:Nat}{E:List U->Sg->Prop}
instance:Stp (wY K Q .normal tm σ) (K tm σ):=⟨q1⟩
instance:Stp (wY K Q (.exit i) tm σ) (Q (.exit i) tm σ):=⟨q2⟩
instance:Stp (wY K Q .ret tm σ) (Q .ret tm σ):=⟨q3⟩
instance:Stp (uS i Q .normal tm σ) (Q .normal tm σ):=⟨q4⟩
instance:Stp (uS i Q .ret tm σ) (Q .ret tm σ):=⟨q5⟩
instance:Stp (uS i Q (.exit i) tm σ) (Q .normal tm σ):=⟨q6⟩
instance:Stp (JM n0 E Q .normal tm σ) (∃tm' σ',E tm' σ'/\n0<=σ'.nx/\Gh n0 tm σ tm' σ'):=⟨q8⟩
instance:Stp (JM n0 E Q .ret tm σ) (Q .ret tm σ):=⟨q9⟩
end
variable{C:PG}
theorem sq{Q:Exit->List U->Sg->Prop}{p q:Code}(h:WPU C n0 p tm σ (wY (fun tm σ=>WPU C n0 q tm σ Q) Q)):WPU C n0 (.seq p q) tm σ Q:=WPU.seq h
section
variable{P:Program}{T:Tb}{ops r:List Oper}{n:Nat}{l:List (Nat×U)}{σ:Sg}{K:List U->Sg->Prop}{u:U}
theorem RS.mv{o:Oper}{x:Operand}(hw:bW ops (fr n l) o=some true)(ho:o.op=.move x)(hx:bO n l x=some u){d:Tmp}(he:o.dst=some d)(hk:RU C T ops r (fr n ((d,u)::l)) σ K)(hd:Nat.blt d n=true:=by rfl):RU C T ops (o::r) (fr n l) σ K:=RS.op hw (by rw[ho];exact g8 hx) he hd hk
theorem RS.as{o:Oper}{x:Operand}(hw:bW ops (fr n l) o=some true)(ho:o.op=.assign x)(hx:bO n l x=some u){d:Tmp}(he:o.dst=some d)(hk:RU C T ops r (fr n ((d,u)::l)) σ K)(hd:Nat.blt d n=true:=by rfl):RU C T ops (o::r) (fr n l) σ K:=RS.op hw (by rw[ho];exact Xu hx) he hd hk
end
section
variable{P:Program}{T:Tb}{ops r:List Oper}{o:Oper}{n:Nat}{l:List (Nat×U)}{σ:Sg}{acc:List RK}{K:List RK->List U->Sg->Prop}{u:U}
theorem RD.mv{x:Operand}(hw:bW ops (fr n l) o=some true)(ho:o.op=.move x)(hx:bO n l x=some u){d:Tmp}(he:o.dst=some d)(hk:RH P T ops r (fr n ((d,u)::l)) σ ((1,⟨fr n l,o,u,false,false,σ,σ⟩)::acc) K)(hd:Nat.blt d n=true:=by rfl):RH P T ops (o::r) (fr n l) σ acc K:=RD.look hw (by rw[ho];exact g8 hx) he hd hk
end
class NeN(a b:Nat):Prop where
 h:¬ a=b
theorem gq{A B:Prop}[s:Stp A B](h:B):A:=s.h h
def xN(T:Tb):List Field->Option (List (Nat×Nat))
 |[]=>some []|f::fs=>match bZ T f.type,xN T fs with
  |some n,some l=>some ((f.offset,n)::l)|_,_=>none
theorem ma{T:Tb}:∀{fs:List Field}{pl:List (Nat×Nat)},xN T fs=some pl->BM T fs=true/\∀i,EM T fs i=nth pl i
 |[],pl,h=>by simp[xN]at h;subst h;exact⟨rfl,fun i=>rfl⟩
 |f::fs,pl,h=>by
  simp only[xN]at h;rcases h1:bZ T f.type with _|n;simp[h1]at h;rcases h2:xN T fs with _|l;simp[h1,h2]at h;simp only[h1,h2,zA]at h;subst h;obtain⟨g1,g2⟩:=ma h2;refine⟨by simp[BM,h1,g1],fun i=>?_⟩;cases i with
  |zero=>simp[EM,nth,h1]|succ i=>exact g2 i
structure jm(T:Tb)(t:TypeId)(zu:List U)(pl:List (Nat×Nat)):Prop where
 bd:∀{qs:List (Nat×U)}{cs:List U},pU (nth pl) zu qs=some cs->okL cs=true->UJ T t qs=some (.agg cs)
variable{t:TypeId}
variable{b:Nat}
variable{z:Value}
variable{zu:List U}
theorem tJ{T:Tb}{fs:Array Field}{a:Nat}{pl:List (Nat×Nat)}(hd:T.und t=some (.struct fs))(hi:T.inf t=some (a,b,z))(hz:mR z.cells.toList=some zu)(hp:xN T fs.toList=some pl):jm T t zu pl:=⟨fun{qs cs} hf hk=>by
 obtain⟨g1,g2⟩:=ma hp;have:EM T fs.toList=nth pl:=funext g2;simp only[UJ,hi,hz,hd,g1,zC,this,hf,hk]⟩
section
variable{T:Tb}{σ σ':Sg}{n:Nat}{l:List (Nat×U)}{u v w:U}
variable{ps:Array (Nat×Operand)}
variable{qs:List (Nat×U)}
variable{cs:List U}
theorem Le{pl:List (Nat×Nat)}(h:jm T t zu pl)(he:AP n l ps.toList=some qs)(hf:pU (nth pl) zu qs=some cs)(hk:okL cs=true):bB T σ (fr n l) (.build t ps)=some (.agg cs,σ):=Ac he (h.bd hf hk)
theorem pF{k:Nat}(hd:T.und t=some (.slice e))(hi:T.inf e=some (sz,b,z))(h:AP n l ps.toList=some qs)(h1:Nat.ble (k*sz) 16777216=true)(h2:Nat.ble k 16777216=true)(h3:Nat.beq z.cells.toList.length sz=true)(hz:mR z.cells.toList=some zu)(hf:pU (fun i=>some (i*sz,sz)) (qK zu k) qs=some cs)(hk:okL cs=true):bB T σ (fr n l) (.buildSlice t k ps)=some (.sl σ.nx 0 k k,cY σ (.row cs e)):=Ew h (by simp only[Aw,hd,hi,h1,h2,h3,zC,hz,hf,hk])
theorem tW.bs{k:Nat}{rs:List (List U)}(hd:T.und t=some (.slice e))(hi:T.inf e=some (sz,b,z))(h:AP n l ps.toList=some qs)(h1:Nat.ble (k*sz) 16777216=true)(h2:Nat.ble k 16777216=true)(h3:Nat.beq z.cells.toList.length sz=true)(hz:mR z.cells.toList=some zu)(hf:pU (fun i=>some (i*sz,sz)) (qK zu k) qs=some cs)(hk:okL cs=true)(hl:Nat.ble (k*sz) cs.length=true)(hr:bT sz k cs=rs)[hb:dQ 0 cs]:tW P T (fr n l) (.buildSlice t k ps) (.isl false rs):=
 .inr ⟨k,sz,cs,e,fun σ=>pF hd hi h h1 h2 h3 hz hf hk,zY hl,hb.h,by rw[hr]⟩
variable{a:Int}
variable{k':IntKind}
theorem kw(k:IntKind){b:Int}(h:¬ b<0):iG .shr k a k' b=some (.int k (a.fdiv (2^(min b.toNat k.bits)))):=by simp[iG,h]
theorem R4(k:IntKind){b:Int}(h:¬ b<0):iG .shl k a k' b=some (.int k (k.wrap (a*2^(min b.toNat k.bits)))):=by simp[iG,h]
theorem Ld(c:α->List U)(z:α){x y:Operand}{k:IntKind}{by_:Nat}{zv:Value}(hx:bO n l x=some (.int k a))(hy:bO n l y=some (.int k' a))(hd:T.und t=some (.slice e))(hi:T.inf e=some (sz,by_,zv))(hz:mR zv.cells.toList=some zu)(hk:okL zu=true)(hzw:nU zu=c z)(hl:Nat.beq zv.cells.toList.length sz=true)(hr:0<=a/\by_*a.toNat<=281474976710656/\a<=281474976710656):bB T σ (fr n l) (.makeSlice t x y)=some (.sl σ.nx 0 a.toNat a.toNat,cY σ (.row ((List.replicate a.toNat z).map c).flatten e)):=by
 have qw:qK (c z) a.toNat=((List.replicate a.toNat z).map c).flatten:=by simp[qK]
 refine Ev hx hy ?_;simp only[XN,hd,hi,hz,hk,hl,zC,hr.1,hr.2.1,hr.2.2,Int.le_refl,and_self,if_true,hzw,qw]
variable{m:Nat}
theorem xA{q:Nat}{k:IntKind}(hd:T.und t=some (.slice e))(hs:bZ T e=some sz)(hv:bH σ K 0=true)(hx:jR xs 0 m i=some x):uR T σ t (.sl K 0 m q) (.int k i)=some (.ptr K 0 (0*sz+i.toNat*sz)):=by
 obtain⟨h1,h2,_⟩:=PF hx;simp only[uR,hd,hs,hv,zC,h1,h2,and_self,if_true,Nat.zero_mul]
theorem OX(c:α->List U){e':TypeId}{d:TypeDesc}{o:Operand}(f:α->U)(hd:T.und t=some d)(ha:nZ d=false)(hc:∀x,c x=[f x])(ho:bO n l o=some (.ptr K 0 (0*1+i.toNat*1)))(hv:gt σ.h K=some (.row (xs.map c).flatten e'))(hx:jR xs 0 m i=some x):bB T σ (fr n l) (.load t o)=some (f x,σ):=by
 refine FS rfl ?_;have hb:Nat.beq 0 0=true:=rfl;have hg:=Wc (c:=c) (sz:=1) (fun x=>by rw[hc];rfl) (PF hx).2.2;rw[hc,Nat.add_mul]at hg;simp only[kI,dY ho,cellsOf,hv,hb,zC,yX,hd,ha,zD,qzu hg]
theorem TR(c:α->List U){e':TypeId}{y:α}{o z:Operand}{h':List (Nat×B)}(hs:bZ T t=some sz)(hc:∀x,(c x).length=sz)(ho:bO n l o=some (.ptr K 0 (0*sz+i.toNat*sz)))(hz:bO n l z=some v)(hcs:sC v=some cs)(hk:okL cs=true)(hy:cs=c y)(hv:gt σ.h K=some (.row (xs.map c).flatten e'))(hx:jR xs 0 m i=some x)(hσ:ug σ.h K (.row ((xs.set i.toNat y).map c).flatten e')=h'):bB T σ (fr n l) (.store t o z)=some (.junk,⟨h',σ.nx⟩):=by
 subst hy;subst hσ;have hb:Nat.beq 0 0=true:=rfl;have nJ:Nat.beq (c y).length sz=true:=by simp[hc]
 have hj:=(zG.1 (PF hx).2.2).1;have hp:=Xc hc hj y;rw[Nat.add_mul,Nat.zero_add]at hp;exact AL rfl rfl (by simp only[kL,dY ho,dY hz,OQ,hs,hcs,nJ,hk,zC,cellsOf,hv,hb,yT,hp,ED])
theorem R0{q:Nat}(hd:T.und t=some (.slice e))(h:bH σ K 0=true):lenU T σ t (.sl K off m q)=some (.int .i64 m):=by
 simp only[lenU,hd,h,zC]
theorem U5{c:α->List U}(hc:∀x,(c x).length=sz)(h:m=xs.length)(K:Nat)(e:TypeId):fz K (.row (xs.map c).flatten e) sz (.sl K 0 m m)=.isl false (xs.map c):=by
 subst h;have hl:0+xs.length*sz<=(xs.map c).flatten.length:=by rw[ER hc];omega
 have hk:Nat.beq K K=true:=by simp
 simp only[fz,hk,zC,hl,if_true,List.drop_zero,qo6 hc]
end
theorem aY.own1(c:α->List U){ys:List α}{as:List U}[hc:BF c][ha:dQ 0 as]{k:Nat}
  (h:aY P f as ⟨[],0⟩ (fun u σ'=>∃t',u=.vl k t' 0 ys.length/\σ'=⟨[(k,.vec (ys.map c).flatten e sz t')],k+1⟩))
  (σ:Sg) (K:Nat) (hK:σ.nx+k=K):
  aY P f as σ (fun u σ'=>∃t',u=.vl K t' 0 ys.length/\σ'=⟨(K,.vec (ys.map c).flatten e sz t')::σ.h,K+1⟩):=by
 subst hK;have hfl:∀l:List α,aG 0 (l.map c).flatten:=fun l=>uT 0 (hc.h 0) l;have h1:=aY.frame [] h σ (by simp) (by simp) ha.h (by intro k b hb;simp[gt]at hb);rw[EP _ _ ha.h]at h1;refine aY.post h1 ?_;rintro u σ1 ⟨u0,IR,⟨t',rfl,rfl⟩,_,rfl,rfl⟩;refine⟨.vl (σ.nx+k) t' 0 ys.length,⟨(σ.nx+k,.vec (ys.map c).flatten e sz t')::σ.h,σ.nx+k+1⟩,by simp;omega,?_,t',rfl,rfl⟩;have hs:Hk [] σ ⟨[(k,.vec (ys.map c).flatten e sz t')],k+1⟩=⟨(σ.nx+k,.vec (ys.map c).flatten e sz t')::BG [] σ.h,σ.nx+k+1⟩:=by simp[Hk,tR,nm,rB,EP _ _ (hfl ys)];omega
 rw[hs];have:=Gh.same (n0:=σ.nx) (tm:=[rU (nm [] σ.nx) (.vl k t' 0 ys.length)]) (σ:=⟨(σ.nx+k,.vec (ys.map c).flatten e sz t')::BG [] σ.h,σ.nx+k+1⟩) ((σ.nx+k,.vec (ys.map c).flatten e sz t')::σ.h) (fun j=>by rw[d8,d8,Ah];by_cases hk:σ.nx+k=j<;>simp[hk]);exact this
theorem Gh.rowW{q q':List U}(hg:gt σ.h K=some (.row q e))(hk:okL q'=true)(h:nO q q'):Gh n0 tm σ tm ⟨ug σ.h K (.row q' e),σ.nx⟩:=Gh.row hg hk fun x vs _ _ he=>⟨h.rel he.1,by rw[h.len];exact he.2⟩
def bothL{α β:Type}:List β->(Bool->Option (List α))->Option (List α)
 |[],F=>match F true,F false with
  |some [],some []=>some []|_,_=>none
 |_::_,F=>F false
theorem qzd{β:Type}{l:List β}{F:Bool->Option (List α)}{r:List α}(h:bothL l F=some r)(z:Bool)(hz:z=true->l=[]):F z=some r:=by
 cases l with|nil=>simp only[bothL]at h;split at h;rename_i h1 h2;cases z;rw[h2];exact h;rw[h1];exact h;cases h|cons a l=>rcases z with _|_;exact h;have:=hz rfl;cases this
end Go.Vx
namespace Go.Vx
open Go Go.Rx
structure i8(K V:Type) where
 es:List (K×V×Nat)
 cl:Nat
def tX{K V:Type}(eq:K->K->Bool)(k:K):List (K×V×Nat)->Nat->Option (Nat×V×Nat)
 |[],_=>none|e::es,i=>cond (eq k e.1) (some (i,e.2.1,e.2.2)) (tX eq k es (i+1))
def tU{K V:Type}(v:V):List (K×V×Nat)->Nat->List (K×V×Nat)
 |[],_=>[]|e::es,0=>(e.1,v,e.2.2)::es
 |e::es,i+1=>e::tU v es i
def yK{K V:Type}:i8 K V:=⟨[],0⟩
def AO{K V:Type}(eq:K->K->Bool)(m:i8 K V)(k:K):Option V:=(tX eq k m.es 0).map fun x=>x.2.1
def vT{K V:Type}(eq:K->K->Bool)(m:i8 K V)(k:K)(v:V):i8 K V:=match tX eq k m.es 0 with
 |none=>⟨m.es++[(k,v,m.cl)],m.cl+1⟩|some (i,_)=>⟨tU v m.es i,m.cl⟩
section
variable{K V:Type}(kU:K->U)(vU:V->U)
def mE(e:K×V×Nat):ME:=⟨kU e.1,vU e.2.1,e.2.2⟩
theorem ml(v:V):∀(es:List (K×V×Nat))(i:Nat),AN (es.map (mE kU vU)) i (fun e=>{ e with val:=vU v })=(tU v es i).map (mE kU vU)
 |[],i=>by cases i<;>simp[AN,tU]
 |e::es,0=>by simp[AN,tU,mE]
 |e::es,i+1=>by simp[AN,tU,ml v es i]
structure MX(T:Tb)(kt:TypeId)(eq:K->K->Bool)(kV:K->Value):Prop where
 v:∀k,toV (kU k)=some (kV k)
 cmp:∀a b,eqv T 50 kt (kV a) (kV b)=some (eq a b)
 key:∀k,lS T 50 kt (kV k)=true
 pl:∀k,plain (kV k)=true
 same:∀a b,eq a b=true->tP 50 (kV b) (kV a)=true
variable{kU vU}{T:Tb}{kt:TypeId}{eq:K->K->Bool}{kV:K->Value}(hk:MX kU T kt eq kV)
include hk
theorem Xd(k:K):∀(es:List (K×V×Nat))(i:Nat),uP T kt (kV k) (es.map (mE kU vU)) i=some ((tX eq k es i).map fun x=>(x.1,vU x.2.1))
 |[],i=>rfl|e::es,i=>by simp only[zQ,uP,mE,hk.v,hk.cmp,tX];rcases h:eq k e.1 with _|_;exact Xd k es (i+1);simp
omit hk in
theorem ut(k:K):∀{es:List (K×V×Nat)}{i j:Nat}{v:V}{b:Nat},tX eq k es i=some (j,v,b)->i<=j/\∃k',es[j-i]? = some (k',v,b)/\eq k k'=true
 |[],i,j,v,b,h=>by simp[tX]at h
 |e::es,i,j,v,b,h=>by
  simp only[tX]at h;cases he:eq k e.1 with
  |true=>rw[he]at h;simp only[zC,zA,zB]at h;obtain⟨rfl,rfl,rfl⟩:=h;exact⟨zF _,e.1,by simp,he⟩
  |false=>rw[he]at h;simp only[zD]at h;obtain⟨h1,k',h2,h3⟩:=ut k h;refine⟨by omega,k',?_,h3⟩;rw[show j-i=(j-(i+1))+1 by omega];simpa using h2
variable{σ:Sg}{n:Nat}{l:List (Nat×U)}{r:Nat}{m:i8 K V}{t et:TypeId}(hd:T.und t=some (.map kt et))(hg:gt σ.h r=some (.map (m.es.map (mE kU vU)) m.cl))
include hd hg
theorem z7e{x k0:Operand}{k:K}{a b:Nat}{z:Value}{zv:V}(hx:bO n l x=some (.map r))(I6:bO n l k0=some (kU k))(hi:T.inf et=some (a,b,z))(hz:fU z=some (vU zv)):bB T σ (fr n l) (.lookup t x k0 true)=some (.tup [vU ((AO eq m k).getD zv),.bool (AO eq m k).isSome],σ):=by
 refine FS rfl ?_;simp only[kI,hd,dY hx,dY I6,hk.v,hk.key,zC,hg,Xd hk,AO];rcases tX eq k m.es 0 with _|q;simp only[Option.map_none,hi,hz,Option.getD_none,Option.isSome];simp only[zM,Option.getD_some,Option.isSome]
omit hd hg in
theorem R2{k:K}{j b:Nat}{v:V}(hf:tX eq k m.es 0=some (j,v,b)):∃k',nth (m.es.map (mE kU vU)) j=some ⟨kU k',vU v,b⟩/\tP 50 (kV k') (kV k)=true:=by
 obtain⟨_,k',h1,h2⟩:=ut k hf;refine⟨k',?_,hk.same k k' h2⟩;rw[gG,List.getElem?_map];rw[Nat.sub_zero]at h1;rw[h1];rfl
theorem QR{x k0 v0:Operand}{k:K}{v:V}(hx:bO n l x=some (.map r))(I6:bO n l k0=some (kU k))(hv0:bO n l v0=some (vU v)){σ':Sg}(hσ:GQ σ r ((vT eq m k v).es.map (mE kU vU)) (vT eq m k v).cl=σ'):bB T σ (fr n l) (.mapUpdate t x k0 v0)=some (.junk,σ'):=by
 subst hσ;refine AL rfl rfl ?_;simp only[kL,dY hx,dY I6,dY hv0,ZD,hd,hk.v,hk.key,hk.pl,zC,hg,Xd hk,vT];rcases hf:tX eq k m.es 0 with _|q;simp only[Option.map_none,List.map_append,zQ,List.map_nil,mE];obtain⟨j,v',b⟩:=q;obtain⟨k',h1,h2⟩:=R2 (vU:=vU) hk hf;simp only[zM,h1,hk.v,h2,zC,ml]
end
theorem zau{T:Tb}{σ:Sg}{n:Nat}{l:List (Nat×U)}{t:TypeId}:bB T σ (fr n l) (.makeMap t none)=some (.map σ.nx,cY σ (.map [] 0)):=AL rfl rfl rfl
theorem TA{K V:Type}{kU:K->U}{vU:V->U}{n:Nat}(hk:∀k,aU n (kU k))(hv:∀v,aU n (vU v))(es:List (K×V×Nat)):∀e∈es.map (mE kU vU),aU n e.key/\aU n e.val:=by
 intro e he;obtain⟨x,_,rfl⟩:=List.mem_map.1 he;exact⟨hk _,hv _⟩
theorem mz{T:Tb}{t:TypeId}{k:IntKind}(hd:T.und t=some (.int k)):MX (fun x=>.int k x) T t (fun a b=>a==b) (fun x=>.int k x) where
 v:=fun _=>rfl
 cmp:=fun a b=>by simp[eqv,hd]
 key:=fun _=>by simp[lS,hd]
 pl:=fun _=>rfl
 same:=fun a b h=>by simp at h;simp[tP,h]
instance{K V:Type}(n:Nat)(kU:K->U)(vU:V->U)(es:List (K×V×Nat))(cl:Nat)[p:XK kU][q:XK vU]:BB n (.map (es.map (mE kU vU)) cl):=⟨by simp only[kH];exact TA (p.h n) (q.h n) es⟩
end Go.Vx
