import Derived.DataReads
import Derived.ChangeArms
import Derived.OpenShut
import Derived.ChangeSame
import Derived.Test.YtldlchbgolpkaaaGreatP8
set_option linter.all false
namespace Go.Vx
open Go Go.Rx
theorem qyj{O β:Type}{f:O->Option β}:∀{l:List O}{r:List β},l.mapM f=some r->r.length=l.length/\∀(i:Nat)(a:O),l[i]? = some a->∃b,r[i]? = some b/\f a=some b
 |[],r,h=>by simp at h;subst h;simp
 |a::l,r,h=>by
  simp only[List.mapM_cons,bind,Option.bind]at h;rcases h1:f a with _|b;simp[h1]at h;simp only[h1]at h;rcases h2:l.mapM f with _|r';simp[h2]at h;simp[h2,pure]at h;subst h;obtain⟨g1,g2⟩:=qyj h2;refine⟨by simp[g1],fun i x hx=>?_⟩;cases i with
  |zero=>simp at hx;subst hx;exact⟨b,rfl,h1⟩|succ i=>simp at hx;simpa using g2 i x hx
theorem xk(W:World):∀(l:List U)(vs:List Value),nP W l vs↔∀(i:Nat)(u:U),l[i]? = some u->∃v,vs[i]? = some v/\Rep W u v
 |[],vs=>by simp[nP]
 |u::us,[]=>by simp only[nP,false_iff];intro h;obtain⟨v,hv,_⟩:=h 0 u rfl;simp at hv
 |u::us,v::vs=>by
  simp only[nP,xk W us vs];constructor;rintro⟨h1,h2⟩ i w hi;cases i with
  |zero=>simp at hi;subst hi;exact⟨v,rfl,h1⟩|succ i=>simp at hi;simpa using h2 i w hi
  intro h;refine⟨?_,fun i w hi=>by simpa using h (i+1) w (by simpa using hi)⟩;obtain⟨v',h1,h2⟩:=h 0 u rfl;simp at h1;subst h1;exact h2
theorem z5c{W:World}{sz:Nat}:∀{l:List (List U)}{vs:List Value},(∀(i:Nat)(c:List U),l[i]? = some c->c.length=sz/\okL c=true/\nP W c (vs.drop (i*sz)))->NM W sz l vs
 |[],vs,h=>by simp[NM]
 |d::l,vs,h=>by simp only[NM];have h0:=h 0 d rfl;refine⟨h0.1,h0.2.1,by simpa using h0.2.2,z5c fun i c hc=>?_⟩;have:=h (i+1) c (by simpa using hc);rw[List.drop_drop];rw[Nat.succ_mul,Nat.add_comm]at this;exact this
def Nu(P:Program):Nat->List Field->Nat->Bool
 |o,[],n=>Nat.beq o n|o,f::fs,n=>cond (Nat.beq f.offset o) (Nu P (o+P.cellsOf f.type) fs n) false
def XD(P:Program)(TS:List TypeId)(t:TypeId):Bool:=match P.underlying t with
 |some .bool=>true|some (.int _)=>true
 |some .string=>true|some (.slice e)=>cond (TS.any (Nat.beq e)) (Nat.blt 0 (P.cellsOf e)) false
 |some (.struct fs)=>cond (Nu P 0 fs.toList (P.cellsOf t)) (fs.toList.all fun f=>TS.any (Nat.beq f.type)) false|some (.array n e)=>cond (TS.any (Nat.beq e)) (Nat.beq (P.cellsOf t) (n*P.cellsOf e)) false
 |_=>false
def closedTS(P:Program)(TS:List TypeId):Bool:=TS.all (XD P TS)
theorem db{TS:List TypeId}{e:TypeId}(h:TS.any (Nat.beq e)=true):e∈TS:=by
 obtain⟨x,h1,h2⟩:=List.any_eq_true.1 h;have:e=x:=by simpa[beq_eq]using h2
 rw[this];exact h1
theorem qr4{W:World}{P:Program}{fuel:Nat}{cs:List Value}:∀(fs:List Field)(o n:Nat),Nu P o fs n=true->n<=cs.length->
  (∀f∈fs,∃us,nP W us ((cs.drop f.offset).take (P.cellsOf f.type))/\us.length=((cs.drop f.offset).take (P.cellsOf f.type)).length/\okL us=true/\OfTy P fuel f.type us)->
  ∃us,nP W us (cs.drop o)/\us.length=n-o/\okL us=true/\o<=n/\∀f∈fs,o<=f.offset/\OfTy P fuel f.type ((us.drop (f.offset-o)).take (P.cellsOf f.type))
 |[],o,n,hc,hl,h=>by
  have:o=n:=by simpa[Nu,beq_eq]using hc
  subst this;exact⟨[],by simp[nP],by simp,rfl,zF _,by simp⟩
 |f::fs,o,n,hc,hl,h=>by
  simp only[Nu]at hc;obtain⟨h1,h2⟩:=MK hc;have ho:f.offset=o:=by simpa[beq_eq]using h1
  obtain⟨us,g1,g2,g3,g4,g5⟩:=qr4 fs _ n h2 hl fun x hx=>h x (by simp[hx]);obtain⟨u0,k1,k2,k3,k4⟩:=h f (by simp);rw[ho]at k1 k2;have k5:u0.length=P.cellsOf f.type:=by rw[k2];simp;omega
  refine⟨u0++us,?_,by simp[k5,g2];omega,JB k3 g3,by omega,fun x hx=>?_⟩;rw[xk]at k1 g1 ⊢;intro i u hu;rw[List.getElem?_append]at hu;split at hu;rename_i aE;obtain⟨v,q1,q2⟩:=k1 i u hu;rw[List.getElem?_take]at q1;rw[k5]at aE;simp only[aE,if_true]at q1;exact⟨v,q1,q2⟩;rename_i aE;obtain⟨v,q1,q2⟩:=g1 _ u hu;rw[List.getElem?_drop]at q1 ⊢;exact⟨v,by rw[k5]at q1 aE;rw[show o+i=o+P.cellsOf f.type+(i-P.cellsOf f.type) by omega];exact q1,q2⟩;rcases zI.1 hx with rfl |hx;refine⟨by omega,?_⟩;rw[ho,Nat.sub_self,List.drop_zero,<-k5,List.take_left' rfl];exact k4;obtain⟨q1,q2⟩:=g5 x hx;refine⟨by omega,?_⟩;rw[show x.offset-o=u0.length+(x.offset-(o+P.cellsOf f.type)) by omega,List.drop_append,List.drop_of_length_le (by omega),List.nil_append,Nat.add_sub_cancel_left];exact q2
theorem qtz{W:World}{P:Program}{fuel:Nat}{cs:List Value}{e:TypeId}{sz:Nat}:∀(n:Nat),n*sz<=cs.length->
  (∀i,i<n->∃us,nP W us ((cs.drop (i*sz)).take sz)/\us.length=((cs.drop (i*sz)).take sz).length/\okL us=true/\OfTy P fuel e us)->
  ∃us,nP W us cs/\us.length=n*sz/\okL us=true/\∀i,i<n->OfTy P fuel e ((us.drop (i*sz)).take sz)
 |0,hl,h=>⟨[],by simp[nP],by simp,rfl,by simp⟩|n+1,hl,h=>by
  rw[Nat.succ_mul]at hl;obtain⟨us,g1,g2,g3,g4⟩:=qtz n (by omega) fun i hi=>h i (by omega);obtain⟨u0,k1,k2,k3,k4⟩:=h n (by omega);have k5:u0.length=sz:=by rw[k2];simp;omega
  refine⟨us++u0,?_,by rw[zU,g2,k5,Nat.succ_mul],JB g3 k3,fun i hi=>?_⟩;rw[xk]at k1 g1 ⊢;intro i u hu;rw[List.getElem?_append]at hu;split at hu;exact g1 i u hu;rename_i aE;obtain⟨v,q1,q2⟩:=k1 _ u hu;rw[List.getElem?_take]at q1;split at q1;rw[List.getElem?_drop]at q1;exact⟨v,by rw[g2]at q1 aE;rw[show i=n*sz+(i-n*sz) by omega];exact q1,q2⟩;cases q1;by_cases jN:i<n;have:=g4 i jN;have rY:i*sz+sz<=us.length:=by rw[g2,<-Nat.succ_mul];exact Nat.mul_le_mul_right _ jN
  rw[List.drop_append_of_le_length (by omega),List.take_append_of_le_length (by simp;omega)];exact this;have:i=n:=by omega
  subst this;rw[<-g2,List.drop_left' rfl,<-k5,List.take_length];exact k4
section
variable{H:Type}{enc:TypeId×Value->H}{P:Program}{W:World}{TS:List TypeId}(Kp:closedTS P TS=true)
include Kp
omit Kp in
theorem fp{a:Addr}{n:Nat}{cs:List Value}(hn:0<n)(h:W.cells? 0 a n=some cs):∃c e fr,a.spot=none/\W.heap[a.block]? = some (.cells c e fr)/\cs.length=n/\∀(k:Nat)(v:Value),cs[k]? = some v->c.toList[a.off+k]? = some v:=by
 unfold World.cells? at h;simp only[Nat.zero_le,if_true]at h;obtain⟨g1,g2⟩:=qyj h;obtain⟨v0,k1,k2⟩:=g2 0 0 (by simp[hn]);have v5:a.spot=none:=by have:=World.cell?_spot k2;simpa[Addr.add]using this
 have hadd:∀k,a.add k=⟨a.block,a.off+k,none⟩:=fun k=>by obtain⟨b,o,sp⟩:=a;simp only at v5;subst v5;exact yQ b o k
 rw[hadd]at k2;unfold World.cell? at k2;rcases hw:W.heap[a.block]? with _|o;simp[hw]at k2;cases o with
 |cells c e fr=>
  refine⟨c,e,fr,v5,rfl,by simpa using g1,fun k v hk=>?_⟩;have aE:k<n:=by have:=(zG.1 hk).1;rw[g1]at this;simpa using this
  obtain⟨v',q1,q2⟩:=g2 k k (by simp[aE]);rw[hk]at q1;cases q1;rw[hadd]at q2;simp only[World.cell?,hw]at q2;simpa using q2
 |_=>simp[hw]at k2
theorem xi:∀(fuel:Nat)(t:TypeId),t∈TS->∀(cs:List Value)(x:DataW H×List MemPlace),DataW.trod enc P W 0 (fun _=>true) true fuel t cs=some x->∃us,nP W us cs/\us.length=cs.length/\okL us=true/\OfTy P fuel t us
 |0,t,ht,cs,x,h=>by simp[DataW.trod]at h
 |fuel+1,t,ht,cs,x,h=>by
  have oT:=List.all_eq_true.1 Kp t ht;unfold XD at oT;rcases hd:P.underlying t with _|d;simp[hd]at oT;cases d with
  |bool=>obtain⟨b,rfl,_⟩:=DataW.trod_bool hd h;exact⟨[.bool b],by simp[nP,Rep],rfl,rfl,by simp[OfTy,hd]⟩
  |int k=>obtain⟨n,rfl,_,Jz⟩:=DataW.trod_int hd h;exact⟨[.int k n],by simp[nP,Rep],rfl,rfl,by simp[OfTy,hd,Jz]⟩
  |string=>obtain⟨s,rfl,_,dR⟩:=DataW.trod_string hd h;refine⟨[.str s.data.toList],by simp[nP,Rep],rfl,rfl,?_⟩;simp only[OfTy,hd];exact⟨_,rfl,by simpa using dR⟩
  |slice e=>
   simp only[hd]at oT;obtain⟨V_,fC⟩:=MK oT;have he:=db V_;have dR:0<P.cellsOf e:=J8 fC;rcases DataW.trod_slice hd h with⟨rfl,_⟩|⟨a,len,cap,DZ,rest,n,gk,rfl,_,_,gi,hcm,b7,hel,v5,_⟩;refine⟨[.isl false []],by simp[nP,Rep],rfl,rfl,?_⟩;simp only[OfTy,hd];exact⟨[],rfl,by simp,by simp⟩;have hn:n=fuel:=by omega
   subst hn;have gW:cap<bX:=by unfold bX;unfold maxLen at hcm;omega
   have each:∀i,i<len->∃us,us.length=P.cellsOf e/\okL us=true/\OfTy P n e us/\∃c ty fr,a.spot=none/\W.heap[a.block]? = some (.cells c ty fr)/\nP W us (c.toList.drop (a.off+i*P.cellsOf e)):=by
    intro i hi;have h1:=hel i hi;have h2:DZ[i]? = some DZ[i]:=by simp[b7,hi]
    rw[h2]at h1;rcases hc:W.cells? 0 (a.add (i*P.cellsOf e)) (P.cellsOf e)with _|ci;simp[hc]at h1;simp only[hc,Option.bind_some]at h1;obtain⟨us,r1,r2,r3,r4⟩:=xi n e he ci _ h1;obtain⟨c,ty,fr,k1,k2,k3,k4⟩:=fp dR hc;have Bb:a.spot=none:=by
     have h3:=hel 0 (by omega);have h4:DZ[0]? = some (DZ[0]'(by omega)):=by simp[b7,show 0<len by omega]
     rw[h4]at h3;rcases KH:W.cells? 0 (a.add (0*P.cellsOf e)) (P.cellsOf e)with _|c0;rw[KH]at h3;cases h3;obtain⟨_,_,_,q1,_⟩:=fp dR KH;simpa[Addr.add]using q1
    have hadd:a.add (i*P.cellsOf e)=⟨a.block,a.off+i*P.cellsOf e,none⟩:=by obtain⟨b,o,sp⟩:=a;simp only at Bb;subst Bb;exact yQ b o _
    rw[hadd]at k2 k4;refine⟨us,by rw[r2,k3],r3,r4,c,ty,fr,Bb,k2,?_⟩;rw[xk]at r1 ⊢;intro k u hu;obtain⟨v,q1,q2⟩:=r1 k u hu;exact⟨v,by rw[List.getElem?_drop];exact k4 k v q1,q2⟩
   have all:∀m,m<=len->∃l:List (List U),l.length=m/\∀(i:Nat)(us:List U),l[i]? = some us->us.length=P.cellsOf e/\okL us=true/\OfTy P n e us/\∃c ty fr,a.spot=none/\W.heap[a.block]? = some (.cells c ty fr)/\nP W us (c.toList.drop (a.off+i*P.cellsOf e)):=by
    intro m;induction m with
    |zero=>intro _;exact⟨[],rfl,by simp⟩|succ m ih=>
     intro hm;obtain⟨l,l1,l2⟩:=ih (by omega);obtain⟨us,U_⟩:=each m (by omega);refine⟨l++[us],by simp[l1],fun i vs C2=>?_⟩;rw[List.getElem?_append]at C2;split at C2;exact l2 i vs C2;rename_i wW;have:i=m:=by have:=(zG.1 C2).1;simp at this;omega
     subst this;rw[l1,Nat.sub_self]at C2;simp at C2;subst C2;exact U_
   obtain⟨l,l1,l2⟩:=all len (zF _);refine⟨[.isl false l],?_,rfl,rfl,?_⟩;simp only[nP,and_true,Rep,true_and];by_cases N6:l=[];subst N6;simp at l1;subst l1;obtain⟨b,o,sp⟩:=a;rcases sp with _|p;exact .inr ⟨b,o,cap,rfl,gW,Nat.zero_le _,.inl rfl⟩;rcases Nat.eq_zero_or_pos cap with h0 |hp;subst h0;exact .inl ⟨rfl,.inr ⟨b,o,p,rfl⟩⟩;exfalso;obtain⟨s1,s2⟩:=v5 rfl;have h3:=s2 0 (by omega);have h4:rest[0]? = some (rest[0]'(by omega)):=by simp[s1,hp]
   rw[h4]at h3;rcases KH:W.cells? 0 (Addr.add ⟨b,o,some p⟩ ((0+0)*P.cellsOf e)) (P.cellsOf e)with _|c0;rw[KH]at h3;cases h3;obtain⟨_,_,_,q1,_⟩:=fp dR KH;simp[Addr.add]at q1;obtain⟨zd,T_⟩:∃zd,l[0]? = some zd:=by cases l with
    |nil=>exact absurd rfl N6|cons a l=>exact⟨a,rfl⟩
   obtain⟨_,_,_,c,ty,fr,UA,hw,_⟩:=l2 0 zd T_;refine .inr ⟨a.block,a.off,cap,by obtain⟨b,o,sp⟩:=a;simp only at UA;subst UA;rw[l1],gW,by omega,.inr ⟨c,ty,fr,P.cellsOf e,hw,z5c fun i us hi=>?_⟩⟩;obtain⟨q1,q2,_,c',ty',fr',_,B3,q3⟩:=l2 i us hi;rw[hw]at B3;cases B3;exact⟨q1,q2,by rw[List.drop_drop];exact q3⟩;simp only[OfTy,hd];refine⟨l,rfl,by omega,fun us U_=>?_⟩;obtain⟨i,hi⟩:=List.mem_iff_getElem?.1 U_;exact(l2 i us hi).2.2.1
  |struct fs=>
   simp only[hd]at oT;obtain⟨hcg,cP⟩:=MK oT;obtain⟨xs,m,gk,_,hl,Ay,hf⟩:=DataW.trod_struct hd h;have hm:m=fuel:=by omega
   subst hm;obtain⟨us,g1,g2,g3,_,g5⟩:=qr4 (W:=W) (P:=P) (fuel:=m) (cs:=cs) fs.toList 0 (P.cellsOf t) hcg (by omega) fun f A0=>by
    obtain⟨i,hi⟩:=List.mem_iff_getElem?.1 A0;have h1:=hf i f (by simpa using hi);have h2:i<xs.length:=by rw[Ay];have:=(zG.1 hi).1;simpa using this
    rw[show xs[i]? = some xs[i] by simp[h2]]at h1;exact xi m f.type (db (List.all_eq_true.1 cP f A0)) _ _ h1
   refine⟨us,by simpa using g1,by omega,g3,?_⟩;simp only[OfTy,hd];exact⟨by omega,fun f A0=>by simpa using(g5 f A0).2⟩
  |array n e=>
   simp only[hd]at oT;obtain⟨V_,i9⟩:=MK oT;have he:=db V_;obtain⟨xs,m,gk,_,hl,Ay,hf⟩:=DataW.trod_array hd h;have hm:m=fuel:=by omega
   subst hm;have gp:P.cellsOf t=n*P.cellsOf e:=by simpa[beq_eq]using i9
   obtain⟨us,g1,g2,g3,g4⟩:=qtz (W:=W) (P:=P) (fuel:=m) (cs:=cs) (e:=e) (sz:=P.cellsOf e) n (by omega) fun i hi=>by have h1:=hf i hi;rw[show xs[i]? = some xs[i] by simp[Ay,hi]]at h1;exact xi m e he _ _ h1
   refine⟨us,g1,by omega,g3,?_⟩;simp only[OfTy,hd];exact⟨by omega,g4⟩
  |_=>simp[hd]at oT
def OfArg(P:Program)(t:TypeId)(u:U):Prop:=∃fuel us,OfTy P fuel t us/\match P.underlying t with
 |some (.struct _)=>u=.agg us|some (.array _ _)=>u=.agg us
 |_=>us=[u]
def OfArgs(P:Program):List TypeId->List U->Prop
 |[],us=>us=[]|t::ts,us=>∃u Fb,us=u::Fb/\OfArg P t u/\OfArgs P ts Fb
theorem zae{t:TypeId}(ht:t∈TS){v:Value}{d:DataW H}{ps:List MemPlace}{r:Reach}{b0:Nat}(eQ:Value.okWide P W r b0 t v)(h:DataW.Trod enc P W 0 (fun _=>true) true t v d ps):∃u,Rep W u v/\OfArg P t u:=by
 obtain⟨fuel,hf⟩:=h;obtain⟨us,h1,h2,h3,h4⟩:=xi Kp fuel t ht _ _ hf;have oT:=List.all_eq_true.1 Kp t ht;unfold XD at oT;have one:v.cells.toList=[v]->(match P.underlying t with
   |some (.struct _)=>False|some (.array _ _)=>False
   |_=>True)->∃u,Rep W u v/\OfArg P t u:=fun hc hm=>by
  rw[hc]at h1 h2
  match us,h2 with
  |[u],_=>simp only[nP,and_true]at h1;refine⟨u,h1,fuel,[u],h4,?_⟩;split<;>simp_all
 have agg:(∃cs,v=.agg cs)->(match P.underlying t with
   |some (.struct _)=>True|some (.array _ _)=>True
   |_=>False)->∃u,Rep W u v/\OfArg P t u:=fun⟨cs,hc⟩ hm=>by
  subst hc;refine⟨.agg us,?_,fuel,us,h4,?_⟩;simp only[Rep];exact⟨cs.toList,rfl,h1,h2,h3⟩;split<;>simp_all
 unfold Value.okWide at eQ;rcases hd:P.underlying t with _|dd;simp[hd]at oT;cases dd with
 |struct fs=>simp only[hd]at eQ;obtain⟨cs,hc,_⟩:=eQ;exact agg ⟨cs,hc⟩ (by simp[hd])
 |array n e=>simp only[hd]at eQ;obtain⟨cs,hc,_⟩:=eQ;exact agg ⟨cs,hc⟩ (by simp[hd])
 |bool=>refine one ?_ (by simp[hd]);simp only[hd,Cell.okWide]at eQ;cases v<;>first |rfl |(simp[Cell.ok,hd]at eQ)
 |int k=>refine one ?_ (by simp[hd]);simp only[hd,Cell.okWide]at eQ;cases v<;>first |rfl |(simp[Cell.ok,hd]at eQ)
 |string=>refine one ?_ (by simp[hd]);simp only[hd,Cell.okWide]at eQ;cases v<;>first |rfl |(simp[Cell.ok,hd]at eQ)
 |slice e=>refine one ?_ (by simp[hd]);simp only[hd,Cell.okWide]at eQ;cases v<;>first |rfl |(simp[Cell.ok,hd]at eQ)
 |_=>simp[hd]at oT
theorem args_rep:∀{ts:List TypeId}{vs:List Value}{ds:List (DataW H)}{ps:List MemPlace}{r:Reach}{b0:Nat},(∀t∈ts,t∈TS)->(∀(j:Nat) t v,ts[j]? = some t->vs[j]? = some v->Value.okWide P W r b0 t v)->DataW.TrodAll enc P W 0 (fun _=>true) true ts vs ds ps->
  ∃us,nP W us vs/\us.length=vs.length/\OfArgs P ts us
 |[],[],[],ps,r,b0,ht,eQ,h=>⟨[],by simp[nP],rfl,rfl⟩|t::ts,v::vs,d::ds,ps,r,b0,ht,eQ,h=>by obtain⟨p,q,h1,h2,_⟩:=h;obtain⟨u,g1,g2⟩:=zae Kp (ht t (by simp)) (eQ 0 t v rfl rfl) h1;obtain⟨us,k1,k2,k3⟩:=args_rep (fun x hx=>ht x (by simp[hx])) (fun j x y h3 h4=>eQ (j+1) x y (by simpa using h3) (by simpa using h4)) h2;exact⟨u::us,by simp[nP,g1,k1],by simp[k2],u,us,rfl,g2,k3⟩
 |[],_::_,_,ps,r,b0,ht,eQ,h=>by simp[DataW.TrodAll]at h
 |[],[],_::_,ps,r,b0,ht,eQ,h=>by simp[DataW.TrodAll]at h
 |_::_,[],_,ps,r,b0,ht,eQ,h=>by simp[DataW.TrodAll]at h
 |_::_,_::_,[],ps,r,b0,ht,eQ,h=>by simp[DataW.TrodAll]at h
end
def PU:Option lK->Option lK
 |some (.inl (l,e,1))=>some (.inl (l,e,1))|_=>none
def Ew(g:Nat->Option lK):Hp->Hp
 |[]=>[]|(i,_)::h=>match g i with
  |some b=>(i,b)::Ew g h|none=>Ew g h
theorem z3v(g:Nat->Option lK):∀(h:Hp)(i:Nat),lk (Ew g h) i=(match lk h i with |some _=>g i |none=>none)
 |[],i=>by simp[Ew,lk]
 |(j,b)::h,i=>by
  have ih:=z3v g h i;simp only[Ew];cases hg:g j with
  |none=>simp only[mS];by_cases e:j=i;subst e;simp only[if_true];rw[ih,hg];split<;>rfl;simp only[e,if_false];exact ih|some c=>simp only[mS];by_cases e:j=i;subst e;simp[hg];simp only[e,if_false];exact ih
def EU(s:S):S:=⟨Ew (fun i=>PU (lk s.h i)) s.h,s.nx⟩
theorem YF(s:S)(i:Nat):lk (EU s).h i=PU (lk s.h i):=by
 simp only[EU,z3v];rcases h:lk s.h i with _|b;rfl;simp
theorem Pn{o:Option lK}{b:lK}(h:PU o=some b):o=some b/\∃l e,b=.inl (l,e,1):=by
 unfold PU at h;split at h;simp at h;subst h;exact⟨rfl,_,_,rfl⟩;cases h
theorem qr8(s:S):Less s (EU s):=⟨zF _,fun i b hb=>by rw[YF]at hb;exact(Pn hb).1⟩
theorem bE.view{P:Program}{f:FuncId}{args args':List U}{X:Sg}{u:U}{v:Value}(h:bE P f args ⟨[],0⟩ (fun u' _=>u'=u/\bB 0 u'))(ha:aL 0 args)(hu:toV u=some v)(C7:∀m,aI m v=v){X1:Sg}(hg:Gh 0 args' X args X1):bE P f args' X (fun u' X'=>u'=u/\X'=X):=fun F x vs m w bH hx hh m7 he fN dB=>by
 obtain⟨y1,a1,a2,a3,a4,a5,a6⟩:=hg F x vs hx hh m7 he;have jB:=a1 m w fN;have d8:=bP.less jB.fits (qr8 y1.s);have fW:Mo 0 y1 (cx (EU y1.s)):=⟨fun k hk=>by omega,fun i row e hl=>by show lk (EU y1.s).h i=_;rw[YF,hl];rfl⟩;have eE:∀b,¬ R6 m (EU y1.s) b:=fun b ⟨i,c,hc,ho,_⟩=>by rw[YF]at hc;obtain⟨_,l,e,rfl⟩:=Pn hc;simp[Own]at ho
 refine(h (fun _ _=>False) (cx (EU y1.s)) vs m w bH rfl ⟨fun k b hb=>by simp[cx,gt]at hb,fun k k' b b' i hb=>by simp[cx,gt]at hb,fun i b hb=>?_⟩ (fun _ _ J=>J.elim) (fW.ke.E ha a5) d8.fits (dB.ext (aM.refl _ _) (Nat.le_trans jB.nx d8.nx))).mono ?_;have cU:lk (EU y1.s).h i=some b:=hb;rw[YF]at cU;exact a3.bd i b (Pn cU).1;rintro e nX ⟨y2,FH,u',v',cv,rfl,⟨rfl,_⟩,aT,gU,_,_,DH,_,_⟩;have hv:=(AU u' v hu y2 v').1 DH;subst hv;have Z?:cv=v':=by rw[<-gU.at,C7]
 subst Z?;have yX:∀b,b<w.heap.size->nX.heap[b]? = w.heap[b]?:=fun b aE=>aT.same b aE (eE b);refine⟨x,m,u',cv,cv,rfl,⟨rfl,hx⟩,⟨aM.refl _ _,zF _,fun m' dJ=>?_,fun b h=>.inl h,fun b aE _=>yX b aE,aT.size,aT.os,aT.tape,aT.output⟩,fun m' _=>C7 m',hh,m7,(AU u' cv hu x cv).2 rfl,Ke.refl _ _,zF _⟩;have A0:=fN m' dJ;exact⟨fun i b hb=>(A0.ok i b hb).world (yX _ (A0.size hb)),A0.inj,A0.bd⟩
abbrev RK:=Nat×dQ
def RH(P:Program)(T:Tb)(a9:List Oper):List Oper->List U->Sg->List RK->(List RK->List U->Sg->Prop)->Prop
 |[],tm,X,aX,K=>K aX tm X|o::r,tm,X,aX,K=>(cJ a9 tm o=some true/\∃u,bM T X tm o.op=some (u,X)/\RH P T a9 r (dW tm o.dst u) X ((1,⟨tm,o,u,false,false,X,X⟩)::aX) K)\/ (cJ a9 tm o=some true/\∃u X',bM T X tm o.op=some (u,X')/\RH P T a9 r (dW tm o.dst u) X' ((3,⟨tm,o,u,true,true,X,X'⟩)::aX) K)\/ (cJ a9 tm o=some true/\∃f args u,k8 T tm o.op=some (f,args)/\bE P f args X (fun u' X'=>u'=u/\X'=X)/\RH P T a9 r (dW tm o.dst u) X ((2,⟨tm,o,u,true,false,X,X⟩)::aX) K)\/ (cJ a9 tm o=some true/\∃f args u X',k8 T tm o.op=some (f,args)/\bE P f args X (fun u' s'=>u'=u/\s'=X')/\RH P T a9 r (dW tm o.dst u) X' ((3,⟨tm,o,u,true,true,X,X'⟩)::aX) K)\/ (cJ a9 tm o=some false/\RH P T a9 r (dW tm o.dst (.tup [])) X ((0,⟨tm,o,.tup [],false,false,X,X⟩)::aX) K)\/ (cJ a9 tm o=some true/\∃u,AQ P T tm o.op u/\RH P T a9 r (dW tm o.dst u) X ((0,⟨tm,o,u,false,false,X,X⟩)::aX) K)\/ (cJ a9 tm o=some true/\∃u1 s1 d u X',bM T X tm o.op=some (u1,s1)/\o.dst=some d/\d<tm.length/\Gh s1.nx [u1] s1 [u] X'/\s1.nx<=X'.nx/\RH P T a9 r (dW tm o.dst u) X' ((3,⟨tm,o,u,true,true,X,X'⟩)::aX) K)
def kindOk(T:Tb)(a9:List Oper)(x:RK):Prop :=
 (x.1=0/\(cJ a9 x.2.tm x.2.o=some false\/bM T x.2.s x.2.tm x.2.o.op≠some (x.2.u,x.2.s'))/\x.2.act=false/\x.2.mv=false)\/(x.1=1/\x.2.act=false/\x.2.mv=false)\/(x.1=2/\x.2.act=true/\x.2.mv=false)\/(x.1=3/\x.2.act=true/\x.2.mv=true)
theorem RD.mono{P:Program}{T:Tb}{a9:List Oper}:∀{rest:List Oper}{tm:List U}{X:Sg}{K K':List dQ->List U->Sg->Prop},(∀rs tm X,K rs tm X->K' rs tm X)->RD P T a9 rest tm X K->RD P T a9 rest tm X K'
 |[],tm,X,K,K',hk,h=>hk _ _ _ h|o::rest,tm,X,K,K',hk,h=>by simp only[RD]at h ⊢;rcases h with⟨hw,u,h1,h2⟩|⟨hw,u,X1,h1,h2⟩|⟨hw,f,args,u,h1,h2,h3⟩|⟨hw,f,args,u,X1,h1,h2,h3⟩|⟨hw,h1⟩|⟨hw,u,h1,h3⟩|⟨hw,u1,s1,d,u,X1,h1,h2,h3,h4,h5,h6⟩;exact .inl ⟨hw,u,h1,RD.mono (fun _ _ _ h=>hk _ _ _ h) h2⟩;exact .inr (.inl ⟨hw,u,X1,h1,RD.mono (fun _ _ _ h=>hk _ _ _ h) h2⟩);exact .inr (.inr (.inl ⟨hw,f,args,u,h1,h2,RD.mono (fun _ _ _ h=>hk _ _ _ h) h3⟩));exact .inr (.inr (.inr (.inl ⟨hw,f,args,u,X1,h1,h2,RD.mono (fun _ _ _ h=>hk _ _ _ h) h3⟩)));exact .inr (.inr (.inr (.inr (.inl ⟨hw,RD.mono (fun _ _ _ h=>hk _ _ _ h) h1⟩))));exact .inr (.inr (.inr (.inr (.inr (.inl ⟨hw,u,h1,RD.mono (fun _ _ _ h=>hk _ _ _ h) h3⟩)))));exact .inr (.inr (.inr (.inr (.inr (.inr ⟨hw,u1,s1,d,u,X1,h1,h2,h3,h4,h5,RD.mono (fun _ _ _ h=>hk _ _ _ h) h6⟩)))))
theorem RH.rd{P:Program}{T:Tb}{a9:List Oper}:∀{rest:List Oper}{tm:List U}{X:Sg}{aX:List RK}{K:List RK->List U->Sg->Prop},RH P T a9 rest tm X aX K->
  RD P T a9 rest tm X (fun rs tm' X'=>∃ks:List RK,ks.map (·.2)=rs/\(∀x∈ks,kindOk T a9 x)/\K (ks.reverse++aX) tm' X')
 |[],tm,X,aX,K,h=>⟨[],rfl,by simp,h⟩|o::rest,tm,X,aX,K,h=>by
  have step:∀(k:RK),kindOk T a9 k->∀(rs:List dQ)(tm':List U)(X':Sg),(∃ks:List RK,ks.map (·.2)=rs/\(∀x∈ks,kindOk T a9 x)/\K (ks.reverse++k::aX) tm' X')->
    ∃ks:List RK,ks.map (·.2)=k.2::rs/\(∀x∈ks,kindOk T a9 x)/\K (ks.reverse++aX) tm' X':=by
   rintro k hk rs tm' X' ⟨ks,h1,h2,h3⟩;refine⟨k::ks,by simp[h1],?_,by simpa using h3⟩;intro x hx;rcases zI.1 hx with rfl |hx;exact hk;exact h2 x hx
  simp only[RH]at h;simp only[RD];rcases h with⟨hw,u,h1,h2⟩|⟨hw,u,X1,h1,h2⟩|⟨hw,f,args,u,h1,h2,h3⟩|⟨hw,f,args,u,X1,h1,h2,h3⟩|⟨hw,h1⟩|⟨hw,u,h1,h3⟩|⟨hw,u1,s1,d,u,X1,h1,h2,h3,h4,h5,h6⟩;exact .inl ⟨hw,u,h1,RD.mono (step (1,_) (.inr (.inl ⟨rfl,rfl,rfl⟩))) (RH.rd h2)⟩;exact .inr (.inl ⟨hw,u,X1,h1,RD.mono (step (3,_) (.inr (.inr (.inr ⟨rfl,rfl,rfl⟩)))) (RH.rd h2)⟩);exact .inr (.inr (.inl ⟨hw,f,args,u,h1,h2,RD.mono (step (2,_) (.inr (.inr (.inl ⟨rfl,rfl,rfl⟩)))) (RH.rd h3)⟩));exact .inr (.inr (.inr (.inl ⟨hw,f,args,u,X1,h1,h2,RD.mono (step (3,_) (.inr (.inr (.inr ⟨rfl,rfl,rfl⟩)))) (RH.rd h3)⟩)));exact .inr (.inr (.inr (.inr (.inl ⟨hw,RD.mono (step (0,_) (.inl ⟨rfl,.inl hw,rfl,rfl⟩)) (RH.rd h1)⟩))));exact .inr (.inr (.inr (.inr (.inr (.inl ⟨hw,u,h1,RD.mono (step (0,_) (.inl ⟨rfl,.inr (h1.noop _),rfl,rfl⟩)) (RH.rd h3)⟩)))));exact .inr (.inr (.inr (.inr (.inr (.inr ⟨hw,u1,s1,d,u,X1,h1,h2,h3,h4,h5,RD.mono (step (3,_) (.inr (.inr (.inr ⟨rfl,rfl,rfl⟩)))) (RH.rd h6)⟩)))))
def allI{O:Type}(p:Nat->O->Bool):Nat->List O->Bool
 |_,[]=>true|b,x::l=>p b x&&allI p (b+1) l
theorem Oj{O:Type}{p:Nat->O->Bool}:∀{b:Nat}{l:List O},allI p b l=true->∀{j:Nat}{x:O},l[j]? = some x->p (b+j) x=true
 |b,[],_,j,x,hx=>by simp at hx
 |b,y::l,h,j,x,hx=>by
  simp only[allI,Bool.and_eq_true]at h;cases j with
  |zero=>simp at hx;subst hx;exact h.1|succ j=>
   simp only[zH]at hx;have:=Oj h.2 hx
   rwa [show b+1+j=b+(j+1) by omega]at this
def Aq(k:Nat):Nat:=cond (Nat.beq k 3) 1 0
def trip:Nat->List Nat->List Nat->List (Nat×Nat×Nat)
 |c,k::ks,m::ms=>(k,m,c)::trip (c+Aq k) ks ms|_,_,_=>[]
def kT:List Nat->Nat
 |[]=>0|k::ks=>Aq k+kT ks
theorem Y':∀(ks ms:List Nat)(c j k m:Nat),ks[j]? = some k->ms[j]? = some m->(trip c ks ms)[j]? = some (k,m,c+kT (ks.take j))
 |[],_,c,j,k,m,h,_=>by simp at h
 |_::_,[],c,j,k,m,_,h=>by simp at h
 |k0::ks,m0::ms,c,0,k,m,h1,h2=>by simp at h1 h2;subst h1;subst h2;simp[trip,kT]
 |k0::ks,m0::ms,c,j+1,k,m,h1,h2=>by simp only[zH]at h1 h2;simp only[trip,zH,List.take_succ_cons,kT];rw[Y' ks ms _ j k m h1 h2];simp only[Nat.add_assoc]
def FJ(i k:Nat):List (Nat×Nat)->Bool
 |[]=>false|p::l=>(Nat.beq i p.1&&Nat.beq k p.2)||FJ i k l
theorem Og{i k:Nat}:∀{l:List (Nat×Nat)},FJ i k l=true->(i,k)∈l
 |[],h=>by simp[FJ]at h
 |p::l,h=>by simp only[FJ,Bool.or_eq_true,Bool.and_eq_true]at h;rcases h with⟨h1,h2⟩|h;rw[Nat.eq_of_beq_eq_true h1,Nat.eq_of_beq_eq_true h2];simp;exact List.mem_cons_of_mem _ (Og h)
def PQ(pr:List (Nat×Nat))(i:Nat)(a:Nat×Nat×Nat)(k:Nat)(b:Nat×Nat×Nat):Bool :=
 cond (Nat.ble 2 b.1) (cond (Nat.ble 2 a.1) (cond (Nat.blt k i) (Nat.testBit a.2.1 k) true) (cond (Nat.beq a.1 1) (cond (Nat.blt k i) (Nat.testBit a.2.1 k||(Nat.beq b.2.2 a.2.2||FJ i k pr)) (Nat.testBit b.2.1 i||(Nat.beq a.2.2 (b.2.2+Aq b.1)||FJ i k pr)))
    true))
  true
def Zh(a9:List Oper)(ks:List Nat)(pr:List (Nat×Nat)):Bool :=
 let L:=trip 0 ks (cO a9 [])
 allI (fun i a=>allI (fun k b=>PQ pr i a k b) 0 L) 0 L
def Fq(T:Tb)(ks:List RK)(p:Nat×Nat):Prop:=match nth ks p.1,nth ks p.2 with
 |some r,some q=>cond (Nat.blt p.2 p.1) (bM T q.2.s r.2.tm r.2.o.op=some (r.2.u,q.2.s)) (bM T q.2.s' r.2.tm r.2.o.op=some (r.2.u,q.2.s'))|_,_=>False
def Y7(T:Tb)(ks:List RK):List (Nat×Nat)->Prop
 |[]=>True|p::l=>Fq T ks p/\Y7 T ks l
theorem Qu{T:Tb}{ks:List RK}:∀{l:List (Nat×Nat)},Y7 T ks l->∀p∈l,Fq T ks p
 |[],_,p,hp=>by cases hp
 |q::l,h,p,hp=>by rcases zI.1 hp with rfl |hp;exact h.1;exact Qu h.2 p hp
theorem qxw{ks:List Nat}:∀{q p:Nat},p<=q->q<=ks.length->kT (ks.take p)=kT (ks.take q)->∀(e k:Nat),p<=e->e<q->ks[e]? = some k->k≠3
 |q,p,HH,hq,h,e,k,h1,h2,h3=>by
  have mono:∀(l:List Nat)(a b:Nat),a<=b->kT (l.take a)<=kT (l.take b):=by
   intro l;induction l with
   |nil=>intro a b _;simp[kT]|cons x l ih=>
    intro a b xE;cases a with
    |zero=>simp[kT]|succ a=>cases b with|zero=>omega|succ b=>simp only[List.take_succ_cons,kT];have:=ih a b (by omega);omega
  have succ:∀(l:List Nat)(a k:Nat),l[a]? = some k->kT (l.take (a+1))=kT (l.take a)+Aq k:=by
   intro l;induction l with
   |nil=>intro a k h;simp at h|cons x l ih=>
    intro a k h;cases a with
    |zero=>simp at h;subst h;simp[kT]|succ a=>simp only[zH]at h;simp only[List.take_succ_cons,kT];rw[ih a k h];omega
  intro hk;have a1:=mono ks p e h1;have a2:=succ ks e k h3;have a3:=mono ks (e+1) q (by omega);rw[hk]at a2;have:Aq 3=1:=rfl;omega
section
variable{C:PG}{T:Tb}(hT:lF C.prog T){n0:Nat}{Q:Exit->List U->Sg->Prop}{tm:List U}{X:Sg}
include hT
theorem WPU.drawE {id : Nat} {a9 : Array Oper} (pr : List (Nat × Nat)) (bY : MI a9.toList = true)
    (h:RH C.prog T a9.toList a9.toList tm X [] (fun ks tm' X'=> Zh a9.toList (ks.reverse.map (·.1)) pr=true/\Y7 T ks.reverse pr/\Q .normal tm' X')):WPU C n0 (.region id a9 true) tm X Q:=by
  obtain⟨rs,tm',X',⟨ks,qF,DL,A3,v6,hQ⟩,g2,g3,g4,g5⟩:=RY _ _ _ _ (RH.rd h);simp only[List.append_nil,List.reverse_reverse]at A3 v6;have fV:Kx C.prog T a9.toList tm X rs tm' X':=⟨g2,g3,g4,fun i r hr=> by obtain⟨a,b,c,d,_⟩:=g5 i r hr;exact⟨a,b,c,d⟩⟩;have same : ∀(p q:Nat),p<=q->q<=rs.length->(∀(e:Nat)(r:dQ),p<=e->e<q->rs[e]? = some r->r.mv=false)->eV rs X' p=eV rs X' q:=by
    intro p q HH hq eE;induction q with
    | zero => have : p = 0 := by omega
              rw[this]
    |succ q ih=>
      rcases Nat.lt_or_ge q p with h |h;have:p=q+1:=by omega
      rw[this];rw[ih h (by omega) fun e r h1 h2 h3=> eE e r h1 (by omega) h3];have hr:rs[q]? = some rs[q]:=by simp[show q<rs.length by omega]
      obtain⟨_,_,k3,_,k5,_⟩:=g5 q _ hr;rw[k3,k5 (eE q _ h (zN _) hr)];simp[eV,hr]
  have b7:ks.length=rs.length:=by rw[<-qF];simp
  have at_ : ∀(i:Nat)(r:dQ),rs[i]? = some r->∃k,ks[i]? = some (k,r)/\kindOk T a9.toList (k,r):=by intro i r hr;rw[<-qF]at hr;simp only[List.getElem?_map]at hr;rcases hk:ks[i]? with _|x;rw[hk]at hr;simp at hr;obtain⟨k,r'⟩:=x;rw[hk]at hr;simp at hr;subst hr;exact⟨k,rfl,DL _ (zX hk)⟩
  have trp : ∀(i k:Nat)(r:dQ),ks[i]? = some (k,r)->∃m,(cO a9.toList [])[i]? = some m/\(trip 0 (ks.map (·.1)) (cO a9.toList []))[i]? = some (k,m,kT ((ks.map (·.1)).take i)):=by
    intro i k r hk;obtain⟨m1,_,_⟩:=jd a9.toList [];have hi:i<a9.toList.length:=by rw[<-g2, <-b7];exact(zG.1 hk).1
    have hm:i<(cO a9.toList []).length:=by rw[m1];simpa using hi
    refine⟨(cO a9.toList [])[i],by simp[hm], ?_⟩;have:=Y' (ks.map (·.1)) (cO a9.toList []) 0 i k _ (by simp[hk]) (show(cO a9.toList [])[i]? = some (cO a9.toList [])[i] by simp[hm])
    rwa [Nat.zero_add]at this
  have chk : ∀ (i k ki kk : Nat) (r q : dQ), ks[i]? = some (ki, r) -> ks[k]? = some (kk, q) -> ∃ mi mk, (cO a9.toList [])[i]? = some mi /\ (cO a9.toList [])[k]? = some mk /\
      PQ pr i (ki,mi,kT ((ks.map (·.1)).take i)) k (kk,mk,kT ((ks.map (·.1)).take k))=true:=by
    intro i k ki kk r q hi hk;obtain⟨mi,e1,e2⟩:=trp i ki r hi;obtain⟨mk,e3,e4⟩:=trp k kk q hk;refine⟨mi,mk,e1,e3, ?_⟩;have h1:=Oj A3 e2;have h2:=Oj h1 e4;simpa using h2
  have nomv : ∀(p q:Nat),p<=q->q<=rs.length->kT ((ks.map (·.1)).take p)=kT ((ks.map (·.1)).take q)->eV rs X' p=eV rs X' q:=by
    intro p q HH hq hc;refine same p q HH hq fun e r h1 h2 h3=> ?_;obtain⟨k,hk,Vw⟩:=at_ e r h3;have:=qxw HH (by simp;omega) hc e k h1 h2 (by simp[hk]);rcases Vw with h |h |h |h
    exact h.2.2.2;exact h.2.2;exact h.2.2;exact absurd h.1 this
  have kact : ∀(i:Nat)(r:dQ),rs[i]? = some r->r.act=true->∃k,ks[i]? = some (k,r)/\Nat.ble 2 k=true:=by intro i r hr ha;obtain⟨k,hk,Vw⟩:=at_ i r hr;refine⟨k,hk, ?_⟩;rcases Vw with h |h |h |h;have:=h.2.2.1;simp only[]at this;rw[ha]at this;cases this;have:=h.2.1;simp only[]at this;rw[ha]at this;cases this;have:=h.1;simp only[]at this;subst this;rfl;have:=h.1;simp only[]at this;subst this;rfl
  have kqu : ∀(i:Nat)(r:dQ),rs[i]? = some r->r.act=false->cJ a9.toList r.tm r.o=some true->bM T r.s r.tm r.o.op=some (r.u,r.s')->ks[i]? = some (1,r):=by intro i r hr ha hw hl;obtain⟨k,hk,Vw⟩:=at_ i r hr;rcases Vw with h |h |h |h;rcases h.2.1 with h' |h';simp only[]at h';rw[hw]at h';cases h';exact absurd hl h';have:=h.1;simp only[]at this;subst this;exact hk;have:=h.2.1;simp only[]at this;rw[ha]at this;cases this;have:=h.2.1;simp only[]at this;rw[ha]at this;cases this
  have succ : ∀(l:List Nat)(a k:Nat),l[a]? = some k->kT (l.take (a+1))=kT (l.take a)+Aq k:=by
    intro l;induction l with
    |nil=> intro a k h;simp at h|cons x l ih=>
      intro a k h;cases a with
      |zero=> simp at h;subst h;simp[kT]|succ a=> simp only[zH]at h;simp only[List.take_succ_cons,kT];rw[ih a k h];omega
  refine WPU.drawn hT bY fV ⟨fun i k r q hr hq ha hb aE=> ?_,fun i k r q hr hq ha hw hl hb aE=> ?_,fun i k r q hr hq ha hw hl hb aE=> ?_⟩ (fun i r hr h=> (g5 i r hr).2.2.2.2.2 h) hQ;obtain⟨ki,h1,h2⟩:=kact i r hr ha;obtain⟨kk,h3,h4⟩:=kact k q hq hb;obtain⟨mi,mk,e1,e2,e3⟩:=chk i k ki kk r q h1 h3;simp only[PQ,h2,h4,zC,oQ aE]at e3;exact⟨mi,e1,e3⟩;have h1:=kqu i r hr ha hw hl;obtain⟨kk,h3,h4⟩:=kact k q hq hb;obtain⟨mi,mk,e1,e2,e3⟩:=chk i k 1 kk r q h1 h3;have xB:Nat.ble 2 1=false:=rfl;have qX:Nat.beq 1 1=true:=rfl;simp only[PQ,xB,qX,h4,zC,zD,oQ aE,Bool.or_eq_true]at e3;rcases e3 with e3 |e3 |e3;exact .inl ⟨mi,e1,e3⟩;have:=nomv k i (by omega) (by have:=(zG.1 hr).1;omega) (Nat.eq_of_beq_eq_true e3);exact .inr (.inl (by simpa[eV,hr,hq]using this));have:=Qu v6 _ (Og e3);simp only[Fq,iZ,h1,h3,oQ aE,zC]at this;exact .inr (.inr this);have h1:=kqu i r hr ha hw hl;obtain⟨kk,h3,h4⟩:=kact k q hq hb;obtain⟨mi,mk,e1,e2,e3⟩:=chk i k 1 kk r q h1 h3;have xB:Nat.ble 2 1=false:=rfl;have qX:Nat.beq 1 1=true:=rfl;simp only[PQ,xB,qX,h4,zC,zD,H8 (show ¬ k<i by omega),Bool.or_eq_true]at e3;rcases e3 with e3 |e3 |e3;exact .inl ⟨mk,e2,e3⟩;have hc:kT ((ks.map (·.1)).take i)=kT ((ks.map (·.1)).take (k+1)):=by rw[succ _ k kk (by simp[h3])];exact Nat.eq_of_beq_eq_true e3
  have:=nomv i (k+1) (by omega) (by have:=(zG.1 hq).1;omega) hc;have h2:=(fV.all k q hq).2.2.1;rw[h2]at this;exact .inr (.inl (by simpa[eV,hr]using this.symm));have:=Qu v6 _ (Og e3);simp only[Fq,iZ,h1,h3,H8 (show ¬ k<i by omega),zD]at this;exact .inr (.inr this)
end
theorem RH.call{P:Program}{T:Tb}{a9 r:List Oper}{o:Oper}{tm:List U}{X:Sg}{aX:List RK}{K:List RK->List U->Sg->Prop}{f:FuncId}{args:List U}{u:U}(hw:cJ a9 tm o=some true)(hc:k8 T tm o.op=some (f,args))(k9:bE P f args X (fun u' X'=>u'=u/\X'=X))
  (h:RH P T a9 r (dW tm o.dst u) X ((2,⟨tm,o,u,true,false,X,X⟩)::aX) K):RH P T a9 (o::r) tm X aX K:=.inr (.inr (.inl ⟨hw,f,args,u,hc,k9,h⟩))
theorem RH.callM{P:Program}{T:Tb}{a9 r:List Oper}{o:Oper}{tm:List U}{X X1:Sg}{aX:List RK}{K:List RK->List U->Sg->Prop}{f:FuncId}{args:List U}{u:U}(hw:cJ a9 tm o=some true)(hc:k8 T tm o.op=some (f,args))(k9:bE P f args X (fun u' X'=>u'=u/\X'=X1))
  (h:RH P T a9 r (dW tm o.dst u) X1 ((3,⟨tm,o,u,true,true,X,X1⟩)::aX) K):RH P T a9 (o::r) tm X aX K:=.inr (.inr (.inr (.inl ⟨hw,f,args,u,X1,hc,k9,h⟩)))
mutual
def rU(Z:Nat->Nat):U->U
 |.ptr k st off=>.ptr (Z k) st off|.sl k off n c=>.sl (Z k) off n c
 |.vl k st off n=>.vl (Z k) st off n|.map k=>.map (Z k)
 |.iptr l=>.iptr (j7 Z l)|.isl t l=>.isl t (yH Z l)
 |.fn f a b=>.fn f (j7 Z a) (j7 Z b)|.agg l=>.agg (j7 Z l)
 |.tup l=>.tup (j7 Z l)|u=>u
def j7(Z:Nat->Nat):List U->List U
 |[]=>[]|u::l=>rU Z u::j7 Z l
def yH(Z:Nat->Nat):List (List U)->List (List U)
 |[]=>[]|c::l=>j7 Z c::yH Z l
end
theorem EZ(Z:Nat->Nat):∀l,(j7 Z l).length=l.length
 |[]=>rfl|u::l=>by simp[j7,EZ Z l]
theorem Gg(Z:Nat->Nat):∀l,(yH Z l).length=l.length
 |[]=>rfl|u::l=>by simp[yH,Gg Z l]
theorem Tr(Z:Nat->Nat)(u:U):okC (rU Z u)=okC u:=by cases u<;>simp[rU,okC]
theorem IS(Z:Nat->Nat):∀l,okL (j7 Z l)=okL l
 |[]=>rfl|u::l=>by simp[j7,okL,Tr,IS Z l]
structure W8(n:Nat)(Z:Nat->Nat)(x y:Cx):Prop where
 ptr:∀k st off v,k<n->aD x (.ptr k st off) v->aD y (.ptr (Z k) st off) v
 sl:∀k off m c v,k<n->aD x (.sl k off m c) v->aD y (.sl (Z k) off m c) v
 vl:∀k st off m v,k<n->aD x (.vl k st off m) v->aD y (.vl (Z k) st off m) v
 map:∀k v,k<n->aD x (.map k) v->aD y (.map (Z k)) v
 imm:∀i row e,lk x.s.h i=some (.inl (row,e,1))->lk y.s.h i=some (.inl (row,e,1))
mutual
theorem aD.leaf{n:Nat}{Z:Nat->Nat}{x y:Cx}(h:W8 n Z x y):(u:U)->(v:Value)->bB n u->aD x u v->aD y (rU Z u) v
 |.junk,v,_,_=>by simp[rU,aD]
 |.bool b,v,_,hr=>by simpa[rU,aD]using hr
 |.int k z,v,_,hr=>by simpa[rU,aD]using hr
 |.str l,v,_,hr=>by simpa[rU,aD]using hr
 |.nilp,v,_,hr=>by simpa[rU,aD]using hr
 |.ptr k st off,v,hb,hr=>h.ptr k st off v (by simpa[bB]using hb) hr|.iptr l,v,hb,hr=>by simp only[rU,aD]at*;obtain⟨i,off,row,e,h1,h2,h3,h4⟩:=hr;exact⟨i,off,row,e,h1,h.imm _ _ _ h2,cT.leaf h l _ (by simpa[bB]using hb) h3,by rw[IS];exact h4⟩
 |.nils,v,_,hr=>by simpa[rU,aD]using hr
 |.sl k off m c,v,hb,hr=>h.sl k off m c v (by simpa[bB]using hb) hr|.vl k st off m,v,hb,hr=>h.vl k st off m v (by simpa[bB]using hb) hr
 |.isl t l,v,hb,hr=>by simp only[rU,aD]at*;rcases hr with⟨rfl,hr⟩|⟨i,off,c,h1,h2,h3⟩;exact .inl ⟨rfl,hr⟩;rw[Gg];refine .inr ⟨i,off,c,h1,h2,?_⟩;rcases h3 with rfl |⟨row,e,sz,g1,g2,g3⟩;exact .inl rfl;exact .inr ⟨row,e,sz,h.imm _ _ _ g1,iO.leaf h l _ (by simpa[bB]using hb) g2,g3⟩
 |.nilm,v,_,hr=>by simpa[rU,aD]using hr
 |.map k,v,hb,hr=>h.map k v (by simpa[bB]using hb) hr|.fn f a b,v,hb,hr=>by simp only[rU,aD]at*;obtain⟨va,vb,h1,h2,h3,h4,h5⟩:=hr;simp only[bB]at hb;exact⟨va,vb,h1,cT.leaf h a _ hb.1 h2,by rw[EZ];exact h3,cT.leaf h b _ hb.2 h4,by rw[EZ];exact h5⟩
 |.nilf,v,_,hr=>by simpa[rU,aD]using hr
 |.nili,v,_,hr=>by simpa[rU,aD]using hr
 |.agg l,v,hb,hr=>by simp only[rU,aD]at*;obtain⟨vs,h1,h2,h3,h4⟩:=hr;exact⟨vs,h1,cT.leaf h l _ (by simpa[bB]using hb) h2,by rw[EZ];exact h3,by rw[IS];exact h4⟩
 |.tup l,v,hb,hr=>by simp only[rU,aD]at*;obtain⟨vs,h1,h2,h3⟩:=hr;exact⟨vs,h1,cT.leaf h l _ (by simpa[bB]using hb) h2,by rw[EZ];exact h3⟩
theorem cT.leaf{n:Nat}{Z:Nat->Nat}{x y:Cx}(h:W8 n Z x y):(l:List U)->(vs:List Value)->aL n l->cT x l vs->cT y (j7 Z l) vs
 |[],vs,_,_=>by simp[j7,cT]
 |u::l,[],_,hr=>by simp[cT]at hr
 |u::l,v::vs,hb,hr=>by simp only[j7,cT,aL]at*;exact⟨aD.leaf h u v hb.1 hr.1,cT.leaf h l vs hb.2 hr.2⟩
theorem iO.leaf{n sz:Nat}{Z:Nat->Nat}{x y:Cx}(h:W8 n Z x y):(l:List (List U))->(vs:List Value)->mP n l->iO x sz l vs->iO y sz (yH Z l) vs
 |[],vs,_,_=>by simp[yH,iO]
 |c::l,vs,hb,hr=>by simp only[yH,iO,mP]at*;exact⟨by rw[EZ];exact hr.1,by rw[IS];exact hr.2.1,cT.leaf h c vs hb.1 hr.2.2.1,iO.leaf h l _ hb.2 hr.2.2.2⟩
end
def rM(Z:Nat->Nat)(e:ME):ME:=⟨rU Z e.key,rU Z e.val,e.born⟩
def rB(Z:Nat->Nat):B->B
 |.row l e=>.row (j7 Z l) e|.vec l e sz st=>.vec (j7 Z l) e sz st
 |.map es cl=>.map (es.map (rM Z)) cl
theorem qp(Z:Nat->Nat)(b:B):(rB Z b).st=b.st:=by cases b<;>rfl
mutual
theorem z51{n:Nat}{Z κ:Nat->Nat}(h:∀k,k<n->κ (Z k)=k):(u:U)->bB n u->rU κ (rU Z u)=u
 |.ptr k _ _,hb=>by simp only[bB]at hb;simp[rU,h k hb]
 |.sl k _ _ _,hb=>by simp only[bB]at hb;simp[rU,h k hb]
 |.vl k _ _ _,hb=>by simp only[bB]at hb;simp[rU,h k hb]
 |.map k,hb=>by simp only[bB]at hb;simp[rU,h k hb]
 |.iptr l,hb=>by simp only[bB]at hb;simp[rU,YE h l hb]
 |.isl t l,hb=>by simp only[bB]at hb;simp[rU,qz4 h l hb]
 |.fn f a b,hb=>by simp only[bB]at hb;simp[rU,YE h a hb.1,YE h b hb.2]
 |.agg l,hb=>by simp only[bB]at hb;simp[rU,YE h l hb]
 |.tup l,hb=>by simp only[bB]at hb;simp[rU,YE h l hb]
 |.junk,_=>rfl|.bool _,_=>rfl
 |.int _ _,_=>rfl|.str _,_=>rfl
 |.nilp,_=>rfl|.nils,_=>rfl
 |.nilm,_=>rfl|.nilf,_=>rfl
 |.nili,_=>rfl
theorem YE{n:Nat}{Z κ:Nat->Nat}(h:∀k,k<n->κ (Z k)=k):(l:List U)->aL n l->j7 κ (j7 Z l)=l
 |[],_=>rfl|u::l,hb=>by simp only[aL]at hb;simp[j7,z51 h u hb.1,YE h l hb.2]
theorem qz4{n:Nat}{Z κ:Nat->Nat}(h:∀k,k<n->κ (Z k)=k):(l:List (List U))->mP n l->yH κ (yH Z l)=l
 |[],_=>rfl|c::l,hb=>by simp only[mP]at hb;simp[yH,YE h c hb.1,qz4 h l hb.2]
end
theorem bF.leaf{n:Nat}{Z:Nat->Nat}{x y:Cx}(h:W8 n Z x y){l:List U}{vs:List Value}(hb:aL n l)(hr:bF x l vs):bF y (j7 Z l) vs:=⟨cT.leaf h l vs hb hr.1,by rw[EZ];exact hr.2⟩
theorem oE.leaf{n:Nat}{Z:Nat->Nat}{x y:Cx}(h:W8 n Z x y){k j:Nat}{b:B}(hb:BelB n b)(kO:y.Y j=x.Y k)(hl:∀i c,x.Y k=some i->lk x.s.h i=some c->lk y.s.h i=some c)(hB:oE x k b):oE y j (rB Z b):=by
 cases b with
 |row l e=>obtain⟨k1,i,l',e1,e2,e3⟩:=hB;exact⟨by rw[IS];exact k1,i,l',by rw[kO,e1],hl _ _ e1 e2,bF.leaf h hb e3⟩
 |vec l e sz st=>obtain⟨k1,k2,h3⟩:=hB;refine⟨by rw[IS];exact k1,k2,?_⟩;rcases h3 with⟨rfl,h4⟩|⟨i,l',e1,e2,e3⟩;exact .inl ⟨rfl,by rw[kO,h4]⟩;exact .inr ⟨i,l',by rw[kO,e1],hl _ _ e1 e2,bF.leaf h hb e3⟩
 |map es cl=>obtain⟨i,es',e1,e2,e3,e4⟩:=hB;refine⟨i,es',by rw[kO,e1],hl _ _ e1 e2,by simpa using e3,fun j e he=>?_⟩;simp only[List.getElem?_map]at he;rcases hj:es[j]? with _|e0;rw[hj]at he;cases he;rw[hj]at he;simp only[zM,zA]at he;subst he;obtain⟨v,q1,q2,q3,q4⟩:=e4 j e0 hj;have Wv:=hb e0 (zX hj);exact⟨v,q1,aD.leaf h _ _ Wv.1 q2,aD.leaf h _ _ Wv.2 q3,q4⟩
structure Y4(n:Nat)(Z:Nat->Nat)(x y:Cx):Prop where
 ptr:∀k st off v,k<n->aD x (.ptr (Z k) st off) v->aD y (.ptr k st off) v
 sl:∀k off m c v,k<n->aD x (.sl (Z k) off m c) v->aD y (.sl k off m c) v
 vl:∀k st off m v,k<n->aD x (.vl (Z k) st off m) v->aD y (.vl k st off m) v
 map:∀k v,k<n->aD x (.map (Z k)) v->aD y (.map k) v
 imm:∀i row e,lk x.s.h i=some (.inl (row,e,1))->lk y.s.h i=some (.inl (row,e,1))
mutual
theorem aD.unleaf{n:Nat}{Z:Nat->Nat}{x y:Cx}(h:Y4 n Z x y):(u:U)->(v:Value)->bB n u->aD x (rU Z u) v->aD y u v
 |.junk,v,_,_=>by simp[aD]
 |.bool b,v,_,hr=>by simpa[rU,aD]using hr
 |.int k z,v,_,hr=>by simpa[rU,aD]using hr
 |.str l,v,_,hr=>by simpa[rU,aD]using hr
 |.nilp,v,_,hr=>by simpa[rU,aD]using hr
 |.ptr k st off,v,hb,hr=>h.ptr k st off v (by simpa[bB]using hb) hr|.iptr l,v,hb,hr=>by simp only[rU,aD]at*;obtain⟨i,off,row,e,h1,h2,h3,h4⟩:=hr;exact⟨i,off,row,e,h1,h.imm _ _ _ h2,cT.unleaf h l _ (by simpa[bB]using hb) h3,by rw[IS]at h4;exact h4⟩
 |.nils,v,_,hr=>by simpa[rU,aD]using hr
 |.sl k off m c,v,hb,hr=>h.sl k off m c v (by simpa[bB]using hb) hr|.vl k st off m,v,hb,hr=>h.vl k st off m v (by simpa[bB]using hb) hr
 |.isl t l,v,hb,hr=>by simp only[rU,aD]at*;rcases hr with⟨h0,hr⟩|⟨i,off,c,h1,h2,h3⟩;exact .inl ⟨List.eq_nil_of_length_eq_zero (by rw[<-Gg Z,h0];rfl),hr⟩;rw[Gg]at h1 h2;refine .inr ⟨i,off,c,h1,h2,?_⟩;rcases h3 with h3 |⟨row,e,sz,g1,g2,g3⟩;exact .inl (List.eq_nil_of_length_eq_zero (by rw[<-Gg Z,h3];rfl));rw[Gg]at g3;exact .inr ⟨row,e,sz,h.imm _ _ _ g1,iO.unleaf h l _ (by simpa[bB]using hb) g2,g3⟩
 |.nilm,v,_,hr=>by simpa[rU,aD]using hr
 |.map k,v,hb,hr=>h.map k v (by simpa[bB]using hb) hr|.fn f a b,v,hb,hr=>by simp only[rU,aD]at*;obtain⟨va,vb,h1,h2,h3,h4,h5⟩:=hr;simp only[bB]at hb;rw[EZ]at h3 h5;exact⟨va,vb,h1,cT.unleaf h a _ hb.1 h2,h3,cT.unleaf h b _ hb.2 h4,h5⟩
 |.nilf,v,_,hr=>by simpa[rU,aD]using hr
 |.nili,v,_,hr=>by simpa[rU,aD]using hr
 |.agg l,v,hb,hr=>by simp only[rU,aD]at*;obtain⟨vs,h1,h2,h3,h4⟩:=hr;rw[EZ]at h3;rw[IS]at h4;exact⟨vs,h1,cT.unleaf h l _ (by simpa[bB]using hb) h2,h3,h4⟩
 |.tup l,v,hb,hr=>by simp only[rU,aD]at*;obtain⟨vs,h1,h2,h3⟩:=hr;rw[EZ]at h3;exact⟨vs,h1,cT.unleaf h l _ (by simpa[bB]using hb) h2,h3⟩
theorem cT.unleaf{n:Nat}{Z:Nat->Nat}{x y:Cx}(h:Y4 n Z x y):(l:List U)->(vs:List Value)->aL n l->cT x (j7 Z l) vs->cT y l vs
 |[],vs,_,_=>by simp[cT]
 |u::l,[],_,hr=>by simp[j7,cT]at hr
 |u::l,v::vs,hb,hr=>by simp only[j7,cT,aL]at*;exact⟨aD.unleaf h u v hb.1 hr.1,cT.unleaf h l vs hb.2 hr.2⟩
theorem iO.unleaf{n sz:Nat}{Z:Nat->Nat}{x y:Cx}(h:Y4 n Z x y):(l:List (List U))->(vs:List Value)->mP n l->iO x sz (yH Z l) vs->iO y sz l vs
 |[],vs,_,_=>by simp[iO]
 |c::l,vs,hb,hr=>by simp only[yH,iO,mP]at*;exact⟨by rw[<-EZ Z];exact hr.1,by rw[<-IS Z];exact hr.2.1,cT.unleaf h c vs hb.1 hr.2.2.1,iO.unleaf h l _ hb.2 hr.2.2.2⟩
end
theorem bF.unleaf{n:Nat}{Z:Nat->Nat}{x y:Cx}(h:Y4 n Z x y){l:List U}{vs:List Value}(hb:aL n l)(hr:bF x (j7 Z l) vs):bF y l vs:=⟨cT.unleaf h l vs hb hr.1,by rw[<-EZ Z];exact hr.2⟩
theorem oE.unleaf{n:Nat}{Z:Nat->Nat}{x y:Cx}(h:Y4 n Z x y){k j:Nat}{b:B}(hb:BelB n b)(kO:y.Y j=x.Y k)(hl:∀i c,x.Y k=some i->lk x.s.h i=some c->lk y.s.h i=some c)(hB:oE x k (rB Z b)):oE y j b:=by
 cases b with
 |row l e=>obtain⟨k1,i,l',e1,e2,e3⟩:=hB;exact⟨by rw[IS]at k1;exact k1,i,l',by rw[kO,e1],hl _ _ e1 e2,bF.unleaf h hb e3⟩
 |vec l e sz st=>obtain⟨k1,k2,h3⟩:=hB;rw[IS]at k1;refine⟨k1,k2,?_⟩;rcases h3 with⟨h3,h4⟩|⟨i,l',e1,e2,e3⟩;exact .inl ⟨List.eq_nil_of_length_eq_zero (by rw[<-EZ Z,h3];rfl),by rw[kO,h4]⟩;exact .inr ⟨i,l',by rw[kO,e1],hl _ _ e1 e2,bF.unleaf h hb e3⟩
 |map es cl=>
  obtain⟨i,es',e1,e2,e3,e4⟩:=hB;refine⟨i,es',by rw[kO,e1],hl _ _ e1 e2,by simpa using e3,fun j e he=>?_⟩;have hj:(es.map (rM Z))[j]? = some (rM Z e):=by simp[he]
  obtain⟨v,q1,q2,q3,q4⟩:=e4 j _ hj;have Wv:=hb e (zX he);exact⟨v,q1,aD.unleaf h _ _ Wv.1 q2,aD.unleaf h _ _ Wv.2 q3,q4⟩
def ix:List Nat->Nat->Nat->Option Nat
 |[],_,_=>none|a::l,k,i=>cond (Nat.beq a k) (some i) (ix l k (i+1))
def nm:List Nat->Nat->Nat->Nat
 |[],nx,j=>nx+j|a::_,_,0=>a
 |_::l,nx,j+1=>nm l nx j
theorem IT:∀(ns:List Nat)(nx j:Nat),j<ns.length->∃h:j<ns.length,nm ns nx j=ns[j]
 |a::l,nx,0,h=>⟨h,rfl⟩|a::l,nx,j+1,h=>by obtain⟨h',e⟩:=IT l nx j (by simpa using h);exact⟨h,by simp[nm,e]⟩
theorem M3:∀(ns:List Nat)(nx j:Nat),ns.length<=j->nm ns nx j=nx+(j-ns.length)
 |[],nx,j,_=>by simp[nm]
 |a::l,nx,0,h=>by simp at h
 |a::l,nx,j+1,h=>by simp only[nm,M3 l nx j (by simpa using h)];simp
theorem z9s{ns:List Nat}{nx:Nat}(N4:ns.Nodup)(aE:∀k∈ns,k<nx){i j:Nat}(h:nm ns nx i=nm ns nx j):i=j:=by
 by_cases hi:i<ns.length;obtain⟨_,e1⟩:=IT ns nx i hi;by_cases hj:j<ns.length;obtain⟨_,e2⟩:=IT ns nx j hj;rw[e1,e2]at h;exact(List.getElem_inj N4).1 h;rw[e1,M3 ns nx j (by omega)]at h;have:=aE _ (List.getElem_mem hi);omega;rw[M3 ns nx i (by omega)]at h;by_cases hj:j<ns.length;obtain⟨_,e2⟩:=IT ns nx j hj;rw[e2]at h;have:=aE _ (List.getElem_mem hj);omega;rw[M3 ns nx j (by omega)]at h;omega
def I2:List Nat->Nat->Bool
 |[],_=>false|a::l,k=>cond (Nat.beq a k) true (I2 l k)
theorem xr:∀(l:List Nat)(k:Nat),I2 l k=true↔k∈l
 |[],k=>by simp[I2]
 |a::l,k=>by simp only[I2,beq_eq,zI];by_cases e:a=k;simp[e];have:¬ k=a:=fun h=>e h.symm;simp[e,this,xr l k]
def AK(ns:List Nat)(nx:Nat):List (Nat×B)->List (Nat×B)
 |[]=>[]|(j,b)::h=>(nm ns nx j,rB (nm ns nx) b)::AK ns nx h
def IV(ns:List Nat):List (Nat×B)->List (Nat×B)
 |[]=>[]|(k,b)::h=>cond (I2 ns k) (IV ns h) ((k,b)::IV ns h)
theorem av{ns:List Nat}{nx:Nat}(hi:∀i j,nm ns nx i=nm ns nx j->i=j):∀(h:List (Nat×B))(j:Nat),gt (AK ns nx h) (nm ns nx j)=(gt h j).map (rB (nm ns nx))
 |[],j=>by simp[AK,gt]
 |(i,b)::h,j=>by simp only[AK,dY,av hi h j];by_cases e:i=j;simp[e];have:¬ nm ns nx i=nm ns nx j:=fun h=>e (hi _ _ h);simp[e,this]
theorem qne{ns:List Nat}{nx:Nat}:∀(h:List (Nat×B))(k:Nat),(∀j,nm ns nx j≠k)->gt (AK ns nx h) k=none
 |[],k,_=>by simp[AK,gt]
 |(i,b)::h,k,hk=>by simp[AK,dY,hk i,qne h k hk]
theorem Ox(ns:List Nat):∀(h:List (Nat×B))(k:Nat),gt (IV ns h) k=if k∈ns then none else gt h k
 |[],k=>by simp[IV,gt]
 |(j,b)::h,k=>by
  have ih:=Ox ns h k;simp only[IV];cases hj:I2 ns j with
  |true=>have DN:=(xr ns j).1 hj;simp only[zC,ih,dY];by_cases e:j=k;subst e;simp[DN];simp[e]|false=>
   have DN:¬ j∈ns:=fun h=>by rw[(xr ns j).2 h]at hj;cases hj
   simp only[zD,dY,ih];by_cases e:j=k;subst e;simp[DN];simp[e]
theorem iy(a b:List (Nat×B))(k:Nat):gt (a++b) k=match gt a k with |some c=>some c |none=>gt b k:=by
 induction a with|nil=>simp[gt]|cons p a ih=>obtain⟨j,c⟩:=p;simp only[List.cons_append,dY,ih];by_cases e:j=k<;>simp[e]
def Xu(ns:List Nat)(X R1:Sg):Sg:=⟨AK ns X.nx R1.h++IV ns X.h,X.nx+(R1.nx-ns.length)⟩
mutual
theorem G':(u:U)->rU id u=u
 |.ptr k _ _=>by simp[rU]
 |.sl k _ _ _=>by simp[rU]
 |.vl k _ _ _=>by simp[rU]
 |.map k=>by simp[rU]
 |.iptr l=>by simp[rU,W5 l]
 |.isl t l=>by simp[rU,Ni l]
 |.fn f a b=>by simp[rU,W5 a,W5 b]
 |.agg l=>by simp[rU,W5 l]
 |.tup l=>by simp[rU,W5 l]
 |.junk=>rfl|.bool _=>rfl
 |.int _ _=>rfl|.str _=>rfl
 |.nilp=>rfl|.nils=>rfl
 |.nilm=>rfl|.nilf=>rfl
 |.nili=>rfl
theorem W5:(l:List U)->j7 id l=l
 |[]=>rfl|u::l=>by simp[j7,G' u,W5 l]
theorem Ni:(l:List (List U))->yH id l=l
 |[]=>rfl|c::l=>by simp[yH,W5 c,Ni l]
end
theorem oE.keep{x y:Cx}{k:Nat}{b:B}(h:oE x k b)(hm:Ke x.X.nx x y)(kO:y.Y k=x.Y k)(hl:∀i c,x.Y k=some i->lk x.s.h i=some c->lk y.s.h i=some c):oE y k b:=by
 cases b with
 |row l e=>obtain⟨k1,i,l',e1,e2,e3⟩:=h;exact⟨k1,i,l',by rw[kO,e1],hl _ _ e1 e2,hm.E e3.bel e3⟩
 |vec l e sz st=>obtain⟨k1,k2,h3⟩:=h;refine⟨k1,k2,?_⟩;rcases h3 with⟨h3,h4⟩|⟨i,l',e1,e2,e3⟩;exact .inl ⟨h3,by rw[kO,h4]⟩;exact .inr ⟨i,l',by rw[kO,e1],hl _ _ e1 e2,hm.E e3.bel e3⟩
 |map es cl=>obtain⟨i,es',e1,e2,e3⟩:=h;refine⟨i,es',by rw[kO,e1],hl _ _ e1 e2,e3.1,fun j e he=>?_⟩;obtain⟨v,q1,q2,q3,q4⟩:=e3.2 j e he;exact⟨v,q1,hm _ _ (aD.bel _ _ q2) q2,hm _ _ (aD.bel _ _ q3) q3,q4⟩
theorem oE.row_at{x:Cx}{k i:Nat}{b:B}(h:oE x k b)(hi:x.Y k=some i):∃c,lk x.s.h i=some c:=by
 cases b with
 |row l e=>obtain⟨_,i',l',e1,e2,_⟩:=h;rw[hi]at e1;cases e1;exact⟨_,e2⟩
 |vec l e sz st=>obtain⟨_,_,h3⟩:=h;rcases h3 with⟨_,h4⟩|⟨i',l',e1,e2,_⟩;rw[hi]at h4;cases h4;rw[hi]at e1;cases e1;exact⟨_,e2⟩
 |map es cl=>obtain⟨i',es',e1,e2,_⟩:=h;rw[hi]at e1;cases e1;exact⟨_,e2⟩
theorem bE.frame{P:Program}{f:FuncId}{args:List U}{h0:List (Nat×B)}{R:U->Sg->Prop}(ns:List Nat)(h:bE P f args ⟨h0,ns.length⟩ R)(X:Sg)(N4:ns.Nodup)(aE:∀k∈ns,k<X.nx)(ha:aL ns.length args)
  (mF:∀k b,gt h0 k=some b->k<ns.length/\BelB ns.length b/\gt X.h (nm ns X.nx k)=some (rB (nm ns X.nx) b)):
  bE P f (j7 (nm ns X.nx) args) X (fun u X'=>∃u0 R1,R u0 R1/\ns.length<=R1.nx/\u=rU (nm ns X.nx) u0/\X'=Xu ns X R1):=fun F x vs m w bH hx hh m7 he fN dB=>by
 subst hx;have Vy:∀i j,nm ns x.X.nx i=nm ns x.X.nx j->i=j:=fun i j h=>z9s N4 aE h;have zE:∀k,k∈ns->∃j,j<ns.length/\nm ns x.X.nx j=k:=fun k hk=>by obtain⟨j,hj,e⟩:=List.getElem_of_mem hk;exact⟨j,hj,by rw[(IT ns x.X.nx j hj).2,e]⟩
 have Vq:∀j,j<ns.length->nm ns x.X.nx j<x.X.nx:=fun j hj=>by rw[(IT ns x.X.nx j hj).2];exact aE _ (List.getElem_mem hj)
 let x0:Cx:=⟨fun k=>if k<ns.length then x.Y (nm ns x.X.nx k)else none,⟨h0,ns.length⟩,x.s⟩
 have FT:∀k,k<ns.length->x0.Y k=x.Y (nm ns x.X.nx k):=fun k hk=>by simp[x0,hk]
 have Be:∀k st (p:Option Nat->Prop),k<ns.length->Ref x (nm ns x.X.nx k) st p->Ref x0 k st p:=fun k st p hk ⟨_,h2⟩=>⟨hk,fun b hb=>by obtain⟨_,_,hg⟩:=mF k b hb;have:=h2 _ hg;rw[qp]at this;rw[FT k hk];exact this⟩;have DE:Y4 ns.length (nm ns x.X.nx) x x0:={
  ptr:=fun k st off v hk hr=>by simp only[aD]at*;exact⟨hr.1,Be k st _ hk hr.2⟩
  sl:=fun k off m c v hk hr=>by simp only[aD]at*;exact⟨hr.1,Be k 0 _ hk hr.2⟩
  map:=fun k v hk hr=>by simp only[aD]at*;exact⟨hr.1,Be k 0 _ hk hr.2⟩
  vl:=fun k st off m v hk hr=>by
   simp only[aD]at*;obtain⟨g1,g2,g3⟩:=hr;refine⟨g1,hk,fun b hb=>?_⟩;obtain⟨_,_,hg⟩:=mF k b hb;obtain⟨g4,g5⟩:=g3 _ hg;rw[qp]at g4 g5;refine⟨g4,fun e=>?_⟩;obtain⟨l,e',sz,e7,e8⟩:=g5 e;rw[FT k hk];cases b with
   |vec l0 e0 Nd st0=>simp only[rB,B.vec.injEq]at e7;obtain⟨_,rfl,rfl,rfl⟩:=e7;exact⟨l0,_,_,rfl,e8⟩
   |row _ _=>simp[rB]at e7|map _ _=>simp[rB]at e7
  imm:=fun i row e hl=>hl }
 have H?:kF x0:=⟨fun k b hb=>by obtain⟨h1,h2,h3⟩:=mF k b hb;exact⟨h1,oE.unleaf DE h2 (FT k h1) (fun i c _ hl=>hl) (hh.ok _ _ h3).2⟩,
  fun k k' b b' i hb cU hi jA=>by obtain⟨h1,h2,h3⟩:=mF k b hb;obtain⟨y5,HP,Cm⟩:=mF k' b' cU;rw[FT k h1]at hi;rw[FT k' y5]at jA;exact Vy _ _ (hh.inj _ _ _ _ i h3 Cm hi jA),
  hh.bd⟩
 let F0:Nat->lK->Prop:=fun i b=>lk x.s.h i=some b/\∀k c,gt h0 k=some c->x.Y (nm ns x.X.nx k)≠some i
 have L?:Fr F0 x0:=fun i b J=>⟨J.1,fun k c hc=>by rw[FT k (mF k c hc).1];exact J.2 k c hc⟩;refine(h F0 x0 vs m w bH rfl H? L? (bF.unleaf DE ha he) fN dB).mono ?_;rintro e w₁ ⟨y0,aH,u0,v,cv,rfl,hR,aT,gU,Wb,wX,DH,eI,jM⟩;have mG:ns.length<=y0.X.nx:=jM;have Wa:∀k,k<x.X.nx->¬ k∈ns->∀j,nm ns x.X.nx j≠k:=fun k hk hn j e=>by by_cases hj:j<ns.length;obtain⟨_,e1⟩:=IT ns x.X.nx j hj;rw[e1]at e;exact hn (e ▸ List.getElem_mem hj);rw[M3 ns x.X.nx j (by omega)]at e;omega
 let inv:Nat->Option Nat:=fun k=>if k<x.X.nx then ix ns k 0 else some (ns.length+(k-x.X.nx))
 let y:Cx:=⟨fun k=>if k∈ns\/x.X.nx<=k then(match inv k with |some j=>y0.Y j |none=>none)else x.Y k,Xu ns x.X y0.X,y0.s⟩
 have A?:∀(l:List Nat)(j i:Nat),l.Nodup->(hj:j<l.length)->ix l l[j] i=some (i+j):=by
  intro l;induction l with
  |nil=>intro j i _ hj;simp at hj|cons a l ih=>
   intro j i N4 hj;cases j with
   |zero=>simp[ix,beq_eq]|succ j=>have cZ:¬ a=l[j]'(by simpa using hj):=fun h=>(List.nodup_cons.1 N4).1 (h ▸ List.getElem_mem _);simp only[List.getElem_cons_succ,ix,beq_eq,cZ,yB,zD];rw[ih j (i+1) (List.nodup_cons.1 N4).2 (by simpa using hj)];congr 1;omega
 have Bu:∀j,inv (nm ns x.X.nx j)=some j:=fun j=>by
  by_cases hj:j<ns.length;have h1:=Vq j hj;obtain⟨_,e1⟩:=IT ns x.X.nx j hj;simp only[inv,h1,if_true];rw[e1,A? ns j 0 N4 hj];simp;have e1:=M3 ns x.X.nx j (by omega);have h1:¬ nm ns x.X.nx j<x.X.nx:=by omega
  simp only[inv,h1,if_false,zA];omega
 have FS:∀j,y.Y (nm ns x.X.nx j)=y0.Y j:=fun j=>by
  have h1:nm ns x.X.nx j∈ns\/x.X.nx<=nm ns x.X.nx j:=by by_cases hj:j<ns.length;obtain⟨_,e1⟩:=IT ns x.X.nx j hj;exact .inl (by rw[e1];exact List.getElem_mem hj);rw[M3 ns x.X.nx j (by omega)];exact .inr (by omega)
  simp only[y,h1,if_true,Bu]
 have C0:∀k,k<x.X.nx->¬ k∈ns->y.Y k=x.Y k:=fun k hk hn=>by
  have h1:¬ (k∈ns\/x.X.nx<=k):=by rintro(h |h);exact hn h;omega
  simp only[y,h1,if_false]
 have Q3:∀j,gt y.X.h (nm ns x.X.nx j)=(gt y0.X.h j).map (rB (nm ns x.X.nx)):=fun j=>by
  show gt (AK ns x.X.nx y0.X.h++IV ns x.X.h) _=_;rw[iy,av Vy];cases hg:gt y0.X.h j with
  |some b=>rfl|none=>simp only[Option.map_none];rw[Ox];split;rfl;rename_i hn;rcases N9:gt x.X.h (nm ns x.X.nx j)with _|b;rfl;have:=(hh.ok _ _ N9).1;exact absurd rfl (Wa _ this hn j)
 have J?:∀k,k<x.X.nx->¬ k∈ns->gt y.X.h k=gt x.X.h k:=fun k hk hn=>by show gt (AK ns x.X.nx y0.X.h++IV ns x.X.h) _=_;rw[iy,qne _ _ (Wa k hk hn),Ox,if_neg hn]
 have A8:∀k b,gt y.X.h k=some b->(∃j b0,k=nm ns x.X.nx j/\gt y0.X.h j=some b0/\b=rB (nm ns x.X.nx) b0)\/(k<x.X.nx/\¬ k∈ns/\gt x.X.h k=some b):=fun k b hb=>by
  by_cases hk:∃j,nm ns x.X.nx j=k;obtain⟨j,rfl⟩:=hk;rw[Q3]at hb;rcases hg:gt y0.X.h j with _|b0;rw[hg]at hb;cases hb;rw[hg]at hb;simp at hb;exact .inl ⟨j,b0,rfl,hg,hb.symm⟩;have rZ:∀j,nm ns x.X.nx j≠k:=fun j e=>hk ⟨j,e⟩
  have wU:k<x.X.nx:=by rcases Nat.lt_or_ge k x.X.nx with h |h;exact h;exact absurd (by rw[M3 ns x.X.nx _ (by omega)];omega) (rZ (ns.length+(k-x.X.nx)))
  have hn:¬ k∈ns:=fun h=>by obtain⟨j,_,e⟩:=zE k h;exact rZ j e
  rw[J? k wU hn]at hb;exact .inr ⟨wU,hn,hb⟩
 have tE:∀k,k<x.X.nx->k∈ns\/¬ k∈ns:=fun k _=>Classical.em _;have JX:y.X.nx=x.X.nx+(y0.X.nx-ns.length):=rfl;have K7:∀j,j<y0.X.nx->nm ns x.X.nx j<y.X.nx:=fun j hj=>by rw[JX];by_cases DN:j<ns.length;have:=Vq j DN;omega;rw[M3 ns x.X.nx j (by omega)];omega
 have K3:∀k st (p:Option Nat->Prop),Ref y0 k st p->Ref y (nm ns x.X.nx k) st p:=fun k st p ⟨h1,h2⟩=>⟨K7 k h1,fun b hb=>by rw[Q3]at hb;rcases hg:gt y0.X.h k with _|b0;rw[hg]at hb;cases hb;rw[hg]at hb;simp only[zM,zA]at hb;subst hb;rw[qp,FS];exact h2 _ hg⟩;have w4:W8 y0.X.nx (nm ns x.X.nx) y0 y:={
  ptr:=fun k st off v _ hr=>by simp only[aD]at*;exact⟨hr.1,K3 k st _ hr.2⟩
  sl:=fun k off m c v _ hr=>by simp only[aD]at*;exact⟨hr.1,K3 k 0 _ hr.2⟩
  map:=fun k v _ hr=>by simp only[aD]at*;exact⟨hr.1,K3 k 0 _ hr.2⟩
  vl:=fun k st off m v _ hr=>by simp only[aD]at*;obtain⟨g1,g2,g3⟩:=hr;refine⟨g1,K7 k g2,fun b hb=>?_⟩;rw[Q3]at hb;rcases hg:gt y0.X.h k with _|b0;rw[hg]at hb;cases hb;rw[hg]at hb;simp only[zM,zA]at hb;subst hb;rw[qp,FS];obtain⟨g4,g5⟩:=g3 _ hg;refine⟨g4,fun e=>?_⟩;obtain⟨l,e',sz,rfl,e8⟩:=g5 e;exact⟨_,e',sz,rfl,e8⟩
  imm:=fun i row e hl=>hl }
 have C?:∀i row e,lk x.s.h i=some (.inl (row,e,1))->lk y.s.h i=some (.inl (row,e,1)):=fun i row e hl=>(wX i _ ⟨hl,fun k c hc kO=>(hh.ok _ _ (mF k c hc).2.2).2.not1 kO hl⟩).1;have K4:∀k st (p:Option Nat->Prop),¬ k∈ns->Ref x k st p->Ref y k st p:=fun k st p hn ⟨h1,h2⟩=>⟨by rw[JX];omega,fun b hb=>by rw[J? k h1 hn]at hb;rw[C0 k h1 hn];exact h2 b hb⟩;have y?:W8 x.X.nx id x y:={
  ptr:=fun k st off v hk hr=>by by_cases hn:k∈ns;obtain⟨j,hj,rfl⟩:=zE k hn;exact w4.ptr j st off v (by omega) (eI (.ptr j st off) v (by simpa[bB,x0]using hj) (DE.ptr j st off v hj hr));simp only[aD]at*;exact⟨hr.1,K4 k st _ hn hr.2⟩
  sl:=fun k off m c v hk hr=>by by_cases hn:k∈ns;obtain⟨j,hj,rfl⟩:=zE k hn;exact w4.sl j off m c v (by omega) (eI (.sl j off m c) v (by simpa[bB,x0]using hj) (DE.sl j off m c v hj hr));simp only[aD]at*;exact⟨hr.1,K4 k 0 _ hn hr.2⟩
  map:=fun k v hk hr=>by by_cases hn:k∈ns;obtain⟨j,hj,rfl⟩:=zE k hn;exact w4.map j v (by omega) (eI (.map j) v (by simpa[bB,x0]using hj) (DE.map j v hj hr));simp only[aD]at*;exact⟨hr.1,K4 k 0 _ hn hr.2⟩
  vl:=fun k st off m v hk hr=>by by_cases hn:k∈ns;obtain⟨j,hj,rfl⟩:=zE k hn;exact w4.vl j st off m v (by omega) (eI (.vl j st off m) v (by simpa[bB,x0]using hj) (DE.vl j st off m v hj hr));simp only[aD,id]at*;obtain⟨g1,g2,g3⟩:=hr;refine⟨g1,by rw[JX];omega,fun b hb=>?_⟩;rw[J? k g2 hn]at hb;rw[C0 k g2 hn];exact g3 b hb
  imm:=C? }
 have KC:∀u,rU id u=u/\True:=fun u=>⟨(G' u),trivial⟩;have UH:Ke x.X.nx x y:=fun u v hb hr=>by
  have:=aD.leaf y? u v hb hr
  rwa [(KC u).1]at this
 have UB:∀k b i c,gt x.X.h k=some b->¬ k∈ns->x.Y k=some i->lk x.s.h i=some c->F0 i c:=fun k b i c hb hn hi hl=>⟨hl,fun j d hd kO=>by
  obtain⟨h1,_,h3⟩:=mF j d hd;have:=hh.inj _ _ _ _ i h3 hb kO hi;have h5:nm ns x.X.nx j∈ns:=by rw[(IT ns x.X.nx j h1).2];exact List.getElem_mem h1
  exact hn (this ▸ h5)⟩
 refine⟨y,aH,rU (nm ns x.X.nx) u0,v,cv,rfl,⟨u0,y0.X,hR,mG,rfl,rfl⟩,aT,gU,⟨fun k b hb=>?_,fun k k' b b' i hb cU hi jA=>?_,Wb.bd⟩,fun i b J=>?_,aD.leaf w4 u0 v (aD.bel u0 v DH) DH,UH,by rw[JX];omega⟩;rcases A8 k b hb with⟨j,b0,rfl,hg,rfl⟩|⟨h1,h2,h3⟩;obtain⟨g1,g2⟩:=Wb.ok j b0 hg;exact⟨K7 j g1,oE.leaf w4 (g2.belB) (FS j) (fun i c _ hl=>hl) g2⟩;exact⟨by rw[JX];omega,(hh.ok k b h3).2.keep UH (C0 k h1 h2) fun i c hi hl=>(wX i c (UB k b i c h3 h2 hi hl)).1⟩;have mixed:∀k k' b b0 (j:Nat),k=nm ns x.X.nx j->gt y0.X.h j=some b0->y.Y k=some i->k'<x.X.nx->¬ k'∈ns->gt x.X.h k'=some b->y.Y k'=some i->False:=fun k k' b b0 j e hg hi h1 h2 h3 jA=>by subst e;rw[FS]at hi;rw[C0 k' h1 h2]at jA;obtain⟨c,hc⟩:=(hh.ok k' b h3).2.row_at jA;exact(wX i c (UB k' b i c h3 h2 jA hc)).2 j b0 hg hi
 rcases A8 k b hb with⟨j,b0,e1,hg,_⟩|⟨h1,h2,h3⟩;rcases A8 k' b' cU with⟨j',b0',QQ,Q4,_⟩|⟨y5,HP,Cm⟩;subst e1 QQ;rw[FS]at hi jA;rw[Wb.inj j j' b0 b0' i hg Q4 hi jA];exact(mixed k k' b' b0 j e1 hg hi y5 HP Cm jA).elim;rcases A8 k' b' cU with⟨j',b0',QQ,Q4,_⟩|⟨y5,HP,Cm⟩;exact(mixed k' k b b0' j' QQ Q4 jA h1 h2 h3 hi).elim;rw[C0 k h1 h2]at hi;rw[C0 k' y5 HP]at jA;exact hh.inj k k' b b' i h3 Cm hi jA;obtain⟨h1,h2⟩:=m7 i b J;have hF0:F0 i b:=⟨h1,fun k c hc=>h2 _ _ (mF k c hc).2.2⟩;refine⟨(wX i b hF0).1,fun k c hc=>?_⟩;rcases A8 k c hc with⟨j,b0,rfl,hg,_⟩|⟨g1,g2,g3⟩;rw[FS];exact(wX i b hF0).2 j b0 hg;rw[C0 k g1 g2];exact h2 k c g3
def a8{O β:Type}(o:Option O)(k:O->Option β):Option β:=match o with
 |some a=>k a|none=>none
variable{O:Type}
variable{β:Type}
theorem aC{o:Option O}{k:O->Option β}{r:β}(h:a8 o k=some r):∃a,o=some a/\k a=some r:=by
 rcases o with _|a;cases h;exact⟨a,rfl,h⟩
@[simp] theorem aO{O β:Type}(a:O)(k:O->Option β):a8 (some a) k=k a:=rfl
@[simp] theorem bg{O β:Type}(k:O->Option β):a8 none k=none:=rfl
theorem Dr{c:Bool}{a b:Option β}{r:Option β}(h:c=true)(J:cond c a b=r):a=r:=by subst h;exact J
theorem Ds{c:Bool}{a b:Option β}{r:Option β}(h:c=false)(J:cond c a b=r):b=r:=by subst h;exact J
def aF{β:Type}(p:Prop)[Decidable p](k:Option β):Option β:=if p then k else none
theorem d9{p:Prop}[Decidable p]{k:Option β}{r:β}(h:aF p k=some r):p/\k=some r:=by
 unfold aF at h;split at h;rename_i hp;exact⟨hp,h⟩;cases h
theorem qyq{p:Prop}[Decidable p]{k:Option β}(h:p):aF p k=k:=by simp[aF,h]
def aB{O:Type}(l:List O)(i:Int):Option O:=if 0<=i/\i<(l.length:Int)then l[i.toNat]? else none
variable{l:List O}
variable{i:Int}
variable{x:O}
theorem z3l(c:O->List U)(h:aB l i=some x):0<=i/\i<(l.length:Int)/\(l.map c)[i.toNat]? = some (c x):=by
 unfold aB at h;split at h;rename_i hp;exact⟨hp.1,hp.2,by simp[h]⟩;cases h
theorem YJ(h:aB l i=some x):0<=i/\i<(l.length:Int)/\l[i.toNat]? = some x:=by
 unfold aB at h;split at h;rename_i hp;exact⟨hp.1,hp.2,h⟩;cases h
theorem cK(i:Nat):aB l (i:Int)=l[i]?:=by
 unfold aB;by_cases h:i<l.length;simp[h];simp[h]
def cI(k:IntKind)(n:Int):List U:=[.int k n]
def cS(s:List UInt8):List U:=[.str s]
def cL{O:Type}(c:O->List U)(l:List O):List U:=[.isl false (l.map c)]
theorem Fz(n:Nat)(k:IntKind)(x:Int):aL n (cI k x):=by simp[cI,aL,bB]
theorem z8y(n:Nat)(x:List UInt8):aL n (cS x):=by simp[cS,aL,bB]
variable{c:O->List U}
theorem Ei(n:Nat)(h:∀x,aL n (c x))(x:List O):aL n (cL c x):=by simp[cL,aL,bB,uE c h x]
variable{sz:Nat}
theorem z1m(h:∀x,(c x).length=sz)(l:List O):((l.map c).all fun r=>Nat.beq r.length sz)=true:=by
 simp[h]
theorem MH(h:∀x,(c x).length=sz)(l:List O):((l.map c).flatten).length=l.length*sz:=by
 induction l with|nil=>simp|cons x l ih=>simp only[zQ,List.flatten_cons,zU,ih,h,zO,Nat.succ_mul];omega
theorem z7f(c:O->List U)(l k:List O):((l++k).map c).flatten=(l.map c).flatten++(k.map c).flatten:=by simp
theorem zbr(h:∀x,(c x).length=sz)(l:List O):kS (l.map c).flatten (0*sz) (l.length*sz)=some (l.map c).flatten:=by
 have:=MH h l;simp only[kS,Nat.zero_mul,Nat.zero_add,this,zF,if_true,List.drop_zero];rw[<-this,List.take_length]
theorem jf(h:∀x,(c x).length=sz)(l:List O)(i:Nat):((l.map c).flatten).drop (i*sz)=((l.drop i).map c).flatten:=by
 induction i generalizing l with|zero=>simp|succ i ih=>rcases l with _|⟨x,l⟩;simp;simp only[zQ,List.flatten_cons,List.drop_succ_cons,Nat.succ_mul];rw[Nat.add_comm,<-List.drop_drop,List.drop_append_of_le_length (by rw[h];exact zF _)];rw[show(c x).drop sz=[]from List.drop_eq_nil_of_le (by rw[h];exact zF _),List.nil_append,ih]
theorem iz(h:∀x,(c x).length=sz)(l:List O)(i:Nat):((l.map c).flatten).take (i*sz)=((l.take i).map c).flatten:=by
 induction i generalizing l with|zero=>simp|succ i ih=>rcases l with _|⟨x,l⟩;simp;simp only[zQ,List.flatten_cons,List.take_succ_cons,Nat.succ_mul];rw[Nat.add_comm,List.take_append,h,zW (by rw[h];omega),Nat.add_sub_cancel_left,ih]
theorem qoo(h:∀x,(c x).length=sz)(l:List O):cD sz l.length (l.map c).flatten=l.map c:=by
 induction l with|nil=>rfl|cons x l ih=>simp only[zQ,List.flatten_cons,zO,cD];rw[List.take_append_of_le_length (by rw[h];exact zF _),zW (by rw[h];exact zF _),List.drop_append_of_le_length (by rw[h];exact zF _),List.drop_eq_nil_of_le (by rw[h];exact zF _),List.nil_append,ih]
theorem z67(h:∀x,(c x).length=sz)(hx:aB l i=some x):kS (l.map c).flatten (0*sz+i.toNat*sz) sz=some (c x):=by
 obtain⟨h1,h2,h3⟩:=YJ hx;have aE:i.toNat<l.length:=by omega
 have hl:=MH h l;have rY:i.toNat*sz+sz<=l.length*sz:=by rw[<-Nat.succ_mul];exact Nat.mul_le_mul_right _ (by omega)
 simp only[kS,Nat.zero_mul,Nat.zero_add,hl,rY,if_true,jf h,zA];have hd:l.drop i.toNat=x::l.drop (i.toNat+1):=by rw[List.drop_eq_getElem_cons aE];rw[List.getElem?_eq_getElem aE]at h3;rw[Option.some.inj h3]
 rw[hd];simp only[zQ,List.flatten_cons];rw[List.take_append_of_le_length (by rw[h];exact zF _),zW (by rw[h];exact zF _)]
theorem WG(h:∀x,(c x).length=sz)(hz:0<sz)(hx:aB l i=some x):((l.map c).flatten=[])=False:=by
 obtain⟨h1,h2,h3⟩:=YJ hx;have hl:=MH h l;simp only[eq_iff_iff,iff_false];intro e;rw[e]at hl;have:0<l.length*sz:=Nat.mul_pos (by omega) hz;simp at hl;omega
theorem zc0(h:∀x,(c x).length=1){u:O->U}(hu:∀x,c x=[u x])(hx:aB l i=some x):nth (l.map c).flatten (0*1+i.toNat*1)=some (u x):=by
 have:=z67 h hx;obtain⟨h1,h2⟩:=SL this;rw[hu]at h2;rw[iZ];have h3:=congrArg (fun l:List U=>l[0]?) h2;simp only[List.getElem?_take,List.getElem?_drop]at h3;simpa using h3.symm
def sQ{O:Type}(l:List O)(lo hi:Int):Option (List O):=if 0<=lo/\lo<=hi/\hi<=(l.length:Int)then some ((l.take hi.toNat).drop lo.toNat)else none
theorem qxz(c:O->List U)(l:List O)(a b:Nat):pW (l.map c) a b=((l.take b).drop a).map c:=by simp[pW,List.map_drop,List.map_take]
variable{k:List O}
variable{lo:Int}
variable{hi:Int}
theorem qua(h:sQ l lo hi=some k):0<=lo/\lo<=hi/\hi<=(l.length:Int)/\(l.take hi.toNat).drop lo.toNat=k:=by
 unfold sQ at h;split at h;rename_i hp;exact⟨hp.1,hp.2.1,hp.2.2,Option.some.inj h⟩;cases h
theorem Y3{n m:Nat}{k:IntKind}(h1:0<=hi)(h2:hi<=(n:Int)):gZ m n none (some (.int k hi)) none=some (0,hi.toNat,n):=by
 have:rW hi (n+1)=true:=OE ⟨by omega,by omega⟩;simp[gZ,jQ,this]
theorem wm{n:Nat}{k:IntKind}(h1:0<=lo)(h2:lo<=(n:Int)):gZ n n (some (.int k lo)) none none=some (lo.toNat,n,n):=by
 have:rW lo (n+1)=true:=OE ⟨by omega,by omega⟩;simp[gZ,jQ,this]
def S4(n0:Nat)(E:List U->Sg->Prop)(Q:Exit->List U->Sg->Prop):Exit->List U->Sg->Prop
 |.normal,tm,X=>∃tm' X',E tm' X'/\n0<=X'.nx/\Gh n0 tm X tm' X'|e,tm,X=>Q e tm X
variable{C:PG}
variable{n0:Nat}
variable{tm:List U}
variable{X:Sg}
theorem dM{Q:Exit->List U->Sg->Prop}{c:Code}(E:List U->Sg->Prop)(out:∀tm X,E tm X->Q .normal tm X)(h:WPU C n0 c tm X (S4 n0 E Q)):WPU C n0 c tm X Q:=by
 refine WPU.after h ?_;intro e XF X1 hn h;cases e with
 |normal=>obtain⟨jH,bZ,h1,h2,h3⟩:=h;exact⟨jH,bZ,h2,h3,out _ _ h1⟩
 |_=>exact⟨XF,X1,hn,Gh.refl _ _ _,h⟩
theorem WPU.loopK{Q:Exit->List U->Sg->Prop}{c:Code}{id:Nat}(I:Nat->List U->Sg->Prop)(E:List U->Sg->Prop)(n:Nat)(h₀:I n tm X)
  (out:∀tm X,E tm X->Q .normal tm X)
  (round:∀n tm X,I n tm X->WPU C n0 c tm X (ET (fun tm' X'=>∃n' jH bZ,n'<n/\I n' jH bZ/\n0<=bZ.nx/\Gh n0 tm' X' jH bZ) (BO id (S4 n0 E Q)))):WPU C n0 (.block id (.loop c)) tm X Q:=by
 refine dM E out ?_;apply aV;exact WPU.loopG I n h₀ round
theorem bE.ghost{P:Program}{f:FuncId}{args args':List U}{X':Sg}{R:U->Sg->Prop}(hg:Gh X.nx args X args' X')(hn:X.nx<=X'.nx)(h:bE P f args' X' R):bE P f args X R:=fun F x vs m w bH hx hh m7 he fN dB=>by
 obtain⟨y,g1,g2,g3,g4,g5,g6⟩:=hg F x vs hx hh m7 he;have aT:=g1 m w fN;refine(h F y vs m w bH g2 g3 g4 g5 aT.fits (dB.ext (aM.refl _ _) aT.nx)).mono ?_;rintro e w₁ ⟨z,aH,u,v,cv,h1,h2,h3,h4,h5,h6,h7,h8,h9⟩;refine⟨z,aH,u,v,cv,h1,h2,aT.trans h3,h4,h5,h6,h7,?_,?_⟩;have g6':Ke x.X.nx x y:=by rw[hx];exact g6
 exact g6'.trans (h8.le (by rw[hx,g2];exact hn));rw[hx];exact Nat.le_trans hn (by rw[<-g2];exact h9)
mutual
inductive Wk:U->U->Prop
 |refl (u:U):Wk u u
 |nil (t:Bool):Wk .nils (.isl t [])
 |full (l:List (List U)):Wk (.isl true l) (.isl false l)
 |agg {l l':List U} (h:rG l l'):Wk (.agg l) (.agg l')
 |tup {l l':List U} (h:rG l l'):Wk (.tup l) (.tup l')
inductive rG:List U->List U->Prop
 |nil:rG [] []
 |cons {u u':U} {l l':List U} (h:Wk u u') (h':rG l l'):rG (u::l) (u'::l')
end
theorem rG.refl:∀l,rG l l
 |[]=>.nil|u::l=>.cons (.refl u) (rG.refl l)
theorem Wk.okC{u u':U}(h:Wk u u'):Vx.okC u'=Vx.okC u:=by cases h<;>rfl
theorem rG.len:∀{l l':List U},rG l l'->l'.length=l.length
 |_,_,.nil=>rfl|_,_,.cons _ h=>by simp[h.len]
theorem rG.okL:∀{l l':List U},rG l l'->Vx.okL l'=Vx.okL l
 |_,_,.nil=>rfl|_,_,.cons h h'=>by simp[Vx.okL,h.okC,h'.okL]
mutual
theorem Wk.rel{x:Cx}{u u':U}{v:Value}(h:Wk u u')(hr:aD x u v):aD x u' v:=by
 cases h with
 |refl=>exact hr|nil t=>simp only[aD]at hr ⊢;exact .inl ⟨trivial,.inl hr⟩
 |full l=>simp only[aD]at hr ⊢;rcases hr with hr |⟨i,off,c,h1,h2,h3⟩;exact .inl hr;exact .inr ⟨i,off,c,h1,by simp,h3⟩
 |agg h=>simp only[aD]at hr ⊢;obtain⟨vs,h1,h2,h3,h4⟩:=hr;exact⟨vs,h1,rG.rel h h2,by rw[h.len,h3],by rw[h.okL,h4]⟩
 |tup h=>simp only[aD]at hr ⊢;obtain⟨vs,h1,h2,h3⟩:=hr;exact⟨vs,h1,rG.rel h h2,by rw[h.len,h3]⟩
theorem rG.rel{x:Cx}{l l':List U}{vs:List Value}(h:rG l l')(hr:cT x l vs):cT x l' vs:=by
 rcases h with _|⟨h,h'⟩;exact hr;rcases vs with _|⟨v,vs⟩;simp[cT]at hr;simp only[cT]at hr ⊢;exact⟨Wk.rel h hr.1,rG.rel h' hr.2⟩
end
theorem Gh.wk{tm':List U}(h:rG tm tm'):Gh n0 tm X tm' X:=fun F x tv hx hr hf he=>⟨x,fun m w hf=>bP.refl hf,hx,hr,hf,⟨h.rel he.1,by rw[h.len];exact he.2⟩,Ke.refl _ _⟩
theorem Gh.fz{tm':List U}{h':List (Nat×B)}(K:Nat)(b:B)(sz:Nat)(hg:gt X.h K=some b)(hb:∀es cl,b≠.map es cl)(ht:jT K b sz tm=tm')(hh:fzH K b sz X.h=h'):Gh n0 tm X tm' ⟨h',X.nx⟩:=by
 subst ht;subst hh;exact Gh.freeze sz hg hb
theorem Le(h:∀x,(c x).length=sz)(l:List O)(K s:Nat)(e:TypeId)(st:Nat):fz K (.vec (l.map c).flatten e sz st) s (.vl K st 0 l.length)=.isl false (l.map c):=by
 have hl:=MH h l;have hc:=qoo h l;simp[fz,beq_eq,hl,hc]
theorem qxm(n:Nat):∀(a b:List U),aL n a->aL n b->aL n (a++b)
 |[],b,_,h=>h|u::a,b,h,h'=>by simp only[aL]at h;simp only[List.cons_append,aL];exact⟨h.1,qxm n a b h.2 h'⟩
theorem BP{O:Type}{c:O->List U}(n:Nat)(h:∀x,aL n (c x)):∀l:List O,aL n (l.map c).flatten
 |[]=>by simp[aL]
 |x::l=>by simp only[zQ,List.flatten_cons];exact qxm n _ _ (h x) (BP n h l)
theorem RU.fcall{T:Tb}{a9 r:List Oper}{o:Oper}{X1:Sg}{K:List U->Sg->Prop}{f:FuncId}{args args':List U}{u:U}(hw:cJ a9 tm o=some true)(hc:k8 T tm o.op=some (f,args))(hg:Gh X.nx args X args' X1)(hn:X.nx<=X1.nx)(k9:bE C.prog f args' X1 (fun u' X'=>u'=u/\X'=X1))
  (h:RU C T a9 r (dW tm o.dst u) X1 K):RU C T a9 (o::r) tm X K:=RU.call hw hc (bE.ghost hg hn k9) (fun u' X' ⟨h1,h2⟩=>by subst h1;subst h2;exact h)
theorem Fx(c:O->List U)(kk:IntKind)(h:sQ l 0 hi=some k):gZ l.length l.length none (some (.int kk hi)) none=some (0,hi.toNat,l.length)/\pW (l.map c) 0 hi.toNat=k.map c:=by
 obtain⟨h1,h2,h3,h4⟩:=qua h;exact⟨Y3 h2 h3,by rw[qxz,<-h4];rfl⟩
theorem Dq(c:O->List U)(kk:IntKind)(h:sQ l lo (l.length:Int)=some k):gZ l.length l.length (some (.int kk lo)) none none=some (lo.toNat,l.length,l.length)/\pW (l.map c) lo.toNat l.length=k.map c:=by
 obtain⟨h1,h2,h3,h4⟩:=qua h;exact⟨wm h1 h2,by rw[qxz,<-h4];simp⟩
def nS:List (Nat×U)->Nat->Option U
 |[],_=>none|(j,u)::l,i=>cond (Nat.beq j i) (some u) (nS l i)
def Cr(l:List (Nat×U)):Nat->Nat->List U
 |0,_=>[]|n+1,i=>((nS l i).getD .junk)::Cr l n (i+1)
def fr(n:Nat)(l:List (Nat×U)):List U:=Cr l n 0
theorem z35(l:List (Nat×U)):∀n i,(Cr l n i).length=n
 |0,_=>rfl|n+1,i=>by simp[Cr,z35 l n]
theorem z34(l:List (Nat×U)):∀n i k,k<n->(Cr l n i)[k]? = some ((nS l (i+k)).getD .junk)
 |0,_,_,h=>by omega
 |n+1,i,0,_=>by simp[Cr]
 |n+1,i,k+1,h=>by simp only[Cr,zH];rw[z34 l n (i+1) k (by omega),show i+1+k=i+(k+1) by omega]
theorem H6(n:Nat)(l:List (Nat×U)):(fr n l).length=n:=z35 l n 0
variable{k:Nat}
theorem OG(n:Nat)(l:List (Nat×U))(h:k<n):(fr n l)[k]? = some ((nS l k).getD .junk):=by
 have:=z34 l n 0 k h;simpa[fr]using this
variable{n:Nat}
variable{l:List (Nat×U)}
theorem z9e{t:List U}(hl:t.length=n)(h:∀k,k<n->t[k]? = some ((nS l k).getD .junk)):t=fr n l:=by
 apply List.ext_getElem?;intro k;by_cases hk:k<n;rw[h k hk,OG n l hk];rw[List.getElem?_eq_none (by omega),List.getElem?_eq_none (by rw[H6];omega)]
def c7(n:Nat)(l:List (Nat×U)):Operand->Option U
 |.tmp t=>cond (Nat.blt t n) (nS l t) none|.const v=>iI v
 |.func f=>some (.fn (.func f) [] [])|.global _=>none
variable{o:Operand}
variable{u:U}
theorem fF(h:c7 n l o=some u):c8 (fr n l) o=some u:=by
 cases o with
 |tmp t=>simp only[c7]at h;rcases hb:Nat.blt t n with _|_;rw[hb]at h;cases h;rw[hb]at h;simp only[zC]at h;simp only[c8,iZ];have ht:t<n:=zY hb;rw[OG n l ht,h];rfl
 |const v=>exact h|func f=>exact h
 |global g=>cases h
def LM(n:Nat)(l:List (Nat×U)):List Operand->Option (List U)
 |[]=>some []|x::r=>match c7 n l x with
  |some v=>(match LM n l r with
   |some q=>some (v::q)|none=>none)
  |none=>none
theorem Fv{n:Nat}{l:List (Nat×U)}:∀{os:List Operand}{us:List U},LM n l os=some us->mB (fr n l) os=some us
 |[],us,h=>h|o::os,us,h=>by simp only[LM]at h;rcases h1:c7 n l o with _|v;simp[h1]at h;rcases h2:LM n l os with _|q;simp[h1,h2]at h;simp only[h1,h2]at h;simp only[mB,fF h1,Fv h2];exact h
def I3(n:Nat)(l:List (Nat×U)):List (Nat×Operand)->Option (List (Nat×U))
 |[]=>some []|(i,x)::r=>match c7 n l x with
  |some v=>(match I3 n l r with
   |some q=>some ((i,v)::q)|none=>none)
  |none=>none
theorem td{n:Nat}{l:List (Nat×U)}:∀{os:List (Nat×Operand)}{us:List (Nat×U)},I3 n l os=some us->AS (fr n l) os=some us
 |[],us,h=>h|(i,o)::os,us,h=>by simp only[I3]at h;rcases h1:c7 n l o with _|v;simp[h1]at h;rcases h2:I3 n l os with _|q;simp[h1,h2]at h;simp only[h1,h2]at h;simp only[AS,fF h1,td h2];exact h
def ZP(l:List (Nat×U)):Option Tmp->U->List (Nat×U)
 |none,_=>l|some d,u=>(d,u)::l
def dOk(n:Nat):Option Tmp->Bool
 |none=>true|some d=>Nat.blt d n
theorem sV{d:Option Tmp}(u:U)(hd:dOk n d=true):dW (fr n l) d u=fr n (ZP l d u):=by
 rcases d with _|d;rfl;have aE:d<n:=zY hd;refine z9e (by simp[dW,H6]) fun k hk=>?_
 simp only[dW,List.getElem?_set,H6,ZP,nS,beq_eq];by_cases e:d=k;subst e;simp[aE];simp only[e,if_false,yB,zD];exact OG n l hk
section
variable{P:Program}{T:Tb}{a9 r:List Oper}{o:Oper}{n:Nat}{l:List (Nat×U)}{X X':Sg}{K:List U->Sg->Prop}{u:U}
variable{C:PG}
variable{d:Tmp}
theorem RS.op(hw:cJ a9 (fr n l) o=some true)(h:bM T X (fr n l) o.op=some (u,X'))(he:o.dst=some d)(hd:Nat.blt d n=true)(hk:RU C T a9 r (fr n ((d,u)::l)) X' K):RU C T a9 (o::r) (fr n l) X K :=
 .inl ⟨hw,u,X',h,by rw[he,sV (d:=some d) u hd];exact hk⟩
theorem NF(hw:cJ a9 (fr n l) o=some true)(h:bM T X (fr n l) o.op=some (u,X'))(he:o.dst=none)(hk:RU C T a9 r (fr n l) X' K):RU C T a9 (o::r) (fr n l) X K :=
 .inl ⟨hw,u,X',h,by rw[he];exact hk⟩
theorem RS.no(hw:cJ a9 (fr n l) o=some false)(he:o.dst=some d)(hd:Nat.blt d n=true)(hk:RU C T a9 r (fr n ((d,.tup [])::l)) X K):RU C T a9 (o::r) (fr n l) X K :=
 .inr (.inr (.inl ⟨hw,by rw[he,sV (d:=some d) _ hd];exact hk⟩))
variable{b:Bool}
theorem RS.nilq{t e ty:TypeId}{xo yo:Operand}{rs:List (List U)}(hw:cJ a9 (fr n l) o=some true)(ho:o.op=.binOp .eql t xo yo ty)(hd:T.und t=some (.slice e))(hx:c7 n l xo=some (.isl b rs))(hy:c7 n l yo=some .nils)(he:o.dst=some d)(bG:Nat.blt d n=true)(hk:∀z:Bool,(z=true->rs=[])->RU C T a9 r (fr n ((d,.bool z)::l)) X K):RU C T a9 (o::r) (fr n l) X K :=
 .inr (.inr (.inr (.inl ⟨hw,t,xo,yo,ty,e,b,rs,ho,hd,fF hx,fF hy,fun z hz=>by rw[he,sV (d:=some d) _ bG];exact hk z hz⟩)))
theorem RS.step{u:U}{X':Sg}(hw:cJ a9 (fr n l) o=some true)(hs:IX C X (fr n l) o (fun u' X1=>u'=u/\X1=X'))(he:o.dst=some d)(hd:Nat.blt d n=true)(hk:RU C T a9 r (fr n ((d,u)::l)) X' K):RU C T a9 (o::r) (fr n l) X K :=
 .inr (.inr (.inr (.inr ⟨hw,_,hs,fun u' X1 h=>by rw[h.1,h.2,he,sV (d:=some d) _ hd];exact hk⟩)))
theorem RS.done(h:K (fr n l) X):RU C T a9 [] (fr n l) X K:=h
theorem RS.call{f:FuncId}{args:List U}(hw:cJ a9 (fr n l) o=some true)(hc:k8 T (fr n l) o.op=some (f,args))(k9:bE C.prog f args X (fun u' X'=>u'=u/\X'=X))(he:o.dst=some d)(hd:Nat.blt d n=true)(hk:RU C T a9 r (fr n ((d,u)::l)) X K):RU C T a9 (o::r) (fr n l) X K :=
 RU.pcall hw hc k9 (by rw[he,sV (d:=some d) u hd];exact hk)
theorem RS.fcall{C:PG}{f:FuncId}{args args':List U}{X1:Sg}(hw:cJ a9 (fr n l) o=some true)(hc:k8 T (fr n l) o.op=some (f,args))(hg:Gh X.nx args X args' X1)(hn:X.nx<=X1.nx)(k9:bE C.prog f args' X1 (fun u' X'=>u'=u/\X'=X1)){d:Tmp}(he:o.dst=some d)(hd:Nat.blt d n=true)(hk:RU C T a9 r (fr n ((d,u)::l)) X1 K):RU C T a9 (o::r) (fr n l) X K :=
 RU.fcall hw hc hg hn k9 (by rw[he,sV (d:=some d) u hd];exact hk)
variable{j:Nat}
variable{want:Bool}
theorem AN(hg:o.guard=some (j,want))(hj:BM a9 j=some d)(hl:c7 n l (.tmp d)=some (.bool b))(hb:b=want):cJ a9 (fr n l) o=some true:=by
 have:=fF hl;simp only[c8]at this;simp[cJ,hg,hj,this,hb]
theorem qn(hg:o.guard=some (j,want))(hj:BM a9 j=some d)(hl:c7 n l (.tmp d)=some (.bool b))(hb:b= !want):cJ a9 (fr n l) o=some false:=by
 have:=fF hl;simp only[c8]at this;cases want<;>simp[cJ,hg,hj,this,hb]
theorem IQ{q:List U}(hg:o.guard=some (j,want))(hj:BM a9 j=some d)(hl:c7 n l (.tmp d)=some (.tup q)):cJ a9 (fr n l) o=some false:=by
 have:=fF hl;simp only[c8]at this;simp[cJ,hg,hj,this]
end
section
variable{P:Program}{T:Tb}{a9 r:List Oper}{o:Oper}{n:Nat}{l:List (Nat×U)}{X X':Sg}{aX:List RK}{K:List RK->List U->Sg->Prop}{u:U}
variable{d:Tmp}
theorem RD.look(hw:cJ a9 (fr n l) o=some true)(h:bM T X (fr n l) o.op=some (u,X))(he:o.dst=some d)(hd:Nat.blt d n=true)(hk:RH P T a9 r (fr n ((d,u)::l)) X ((1,⟨fr n l,o,u,false,false,X,X⟩)::aX) K):RH P T a9 (o::r) (fr n l) X aX K :=
 .inl ⟨hw,u,h,by rw[he,sV (d:=some d) u hd];exact hk⟩
theorem RD.act(hw:cJ a9 (fr n l) o=some true)(h:bM T X (fr n l) o.op=some (u,X'))(he:o.dst=some d)(hd:Nat.blt d n=true)(hk:RH P T a9 r (fr n ((d,u)::l)) X' ((3,⟨fr n l,o,u,true,true,X,X'⟩)::aX) K):RH P T a9 (o::r) (fr n l) X aX K :=
 .inr (.inl ⟨hw,u,X',h,by rw[he,sV (d:=some d) u hd];exact hk⟩)
theorem RD.actn(hw:cJ a9 (fr n l) o=some true)(h:bM T X (fr n l) o.op=some (u,X'))(he:o.dst=none)(hk:RH P T a9 r (fr n l) X' ((3,⟨fr n l,o,u,true,true,X,X'⟩)::aX) K):RH P T a9 (o::r) (fr n l) X aX K :=
 .inr (.inl ⟨hw,u,X',h,by rw[he];exact hk⟩)
theorem RD.no(hw:cJ a9 (fr n l) o=some false)(he:o.dst=some d)(hd:Nat.blt d n=true)(hk:RH P T a9 r (fr n ((d,.tup [])::l)) X ((0,⟨fr n l,o,.tup [],false,false,X,X⟩)::aX) K):RH P T a9 (o::r) (fr n l) X aX K :=
 .inr (.inr (.inr (.inr (.inl ⟨hw,by rw[he,sV (d:=some d) _ hd];exact hk⟩))))
theorem RD.free{f:FuncId}{args:List U}(hw:cJ a9 (fr n l) o=some true)(hc:k8 T (fr n l) o.op=some (f,args))(k9:∀s,bE P f args s (fun u' X'=>u'=u/\X'=s))(he:o.dst=some d)(hd:Nat.blt d n=true)(hk:RH P T a9 r (fr n ((d,u)::l)) X ((0,⟨fr n l,o,u,false,false,X,X⟩)::aX) K):RH P T a9 (o::r) (fr n l) X aX K :=
 .inr (.inr (.inr (.inr (.inr (.inl ⟨hw,u,.inl ⟨f,args,hc,k9⟩,by rw[he,sV (d:=some d) u hd];exact hk⟩)))))
theorem RD.freeO(hw:cJ a9 (fr n l) o=some true)(hf:AQ P T (fr n l) o.op u)(he:o.dst=some d)(hd:Nat.blt d n=true)(hk:RH P T a9 r (fr n ((d,u)::l)) X ((0,⟨fr n l,o,u,false,false,X,X⟩)::aX) K):RH P T a9 (o::r) (fr n l) X aX K :=
 .inr (.inr (.inr (.inr (.inr (.inl ⟨hw,u,hf,by rw[he,sV (d:=some d) u hd];exact hk⟩)))))
theorem RD.fz{u1:U}{s1 X':Sg}(hw:cJ a9 (fr n l) o=some true)(h:bM T X (fr n l) o.op=some (u1,s1))(hg:Gh s1.nx [u1] s1 [u] X')(hn:s1.nx<=X'.nx)(he:o.dst=some d)(hd:Nat.blt d n=true)(hk:RH P T a9 r (fr n ((d,u)::l)) X' ((3,⟨fr n l,o,u,true,true,X,X'⟩)::aX) K):RH P T a9 (o::r) (fr n l) X aX K :=
 .inr (.inr (.inr (.inr (.inr (.inr ⟨hw,u1,s1,d,u,X',h,he,by rw[H6];rwa [Nat.blt_eq]at hd,hg,hn,by rw[he,sV (d:=some d) u hd];exact hk⟩)))))
theorem RD.call{f:FuncId}{args:List U}(hw:cJ a9 (fr n l) o=some true)(hc:k8 T (fr n l) o.op=some (f,args))(k9:bE P f args X (fun u' X'=>u'=u/\X'=X)){d:Tmp}(he:o.dst=some d)(hd:Nat.blt d n=true)(hk:RH P T a9 r (fr n ((d,u)::l)) X ((2,⟨fr n l,o,u,true,false,X,X⟩)::aX) K):RH P T a9 (o::r) (fr n l) X aX K :=
 RH.call hw hc k9 (by rw[he,sV (d:=some d) u hd];exact hk)
theorem bI(h:K aX (fr n l) X):RH P T a9 [] (fr n l) X aX K:=h
end
def HX(l:List (Nat×U)):List (Nat×U)->Prop
 |[]=>True|(i,u)::r=>nS l i=some u/\HX l r
theorem qw1{l:List (Nat×U)}:∀{r:List (Nat×U)},HX l r->∀i u,nS r i=some u->nS l i=some u
 |[],_,i,u,h=>by cases h
 |(j,v)::r,hs,i,u,h=>by simp only[HX]at hs;simp only[nS,beq_eq]at h;by_cases e:j=i;subst e;simp at h;subst h;exact hs.1;simp only[e,yB,zD]at h;exact qw1 hs.2 i u h
theorem ad{x:Cx}{tv:List Value}(hl:tv.length=n)(h:∀i u,i<n->nS l i=some u->∃v,tv[i]? = some v/\aD x u v):bF x (fr n l) tv:=by
 refine bF.mk' (by rw[H6,hl]) fun i u hi=>?_;have aE:i<n:=by have:=(zG.1 hi).1;rwa [H6]at this
 rw[OG n l aE]at hi;cases hk:nS l i with
 |none=>rw[hk]at hi;simp at hi;subst hi;exact⟨tv[i],List.getElem?_eq_getElem (by omega),by simp[aD]⟩|some w=>rw[hk]at hi;simp at hi;subst hi;exact h i w aE hk
theorem qvr{x:Cx}{tv:List Value}(he:bF x (fr n l) tv){i:Nat}(hi:i<n)(h:nS l i=some u):∃v,tv[i]? = some v/\aD x u v :=
 he.get (by rw[OG n l hi,h];rfl)
variable{n0:Nat}
variable{l':List (Nat×U)}
variable{X:Sg}
theorem Gh.sub(h:HX l l'):Gh n0 (fr n l) X (fr n l') X:=fun F x tv hx hr hf he=>
 ⟨x,fun m w hf=>bP.refl hf,hx,hr,hf,ad (by rw[<-he.2,H6]) (fun i u hi hl=>qvr he hi (qw1 h i u hl)),Ke.refl _ _⟩
def PR:Nat->List U->List (Nat×U)
 |_,[]=>[]|i,u::l=>(i,u)::PR (i+1) l
theorem quz:∀(l:List U)(i k:Nat)(u:U),nS (PR i l) k=some u->i<=k/\l[k-i]? = some u
 |[],i,k,u,h=>by cases h
 |v::l,i,k,u,h=>by simp only[PR,nS,beq_eq]at h;by_cases e:i=k;subst e;simp at h;subst h;simp;simp only[e,yB,zD]at h;obtain⟨h1,h2⟩:=quz l (i+1) k u h;refine⟨by omega,?_⟩;rw[show k-i=(k-(i+1))+1 by omega];simpa using h2
theorem qyz:∀(n:Nat)(l:List U)(k:Nat)(u:U),l[k]? = some u->(D5 n l)[k]? = some u
 |0,l,k,u,h=>h|n+1,[],k,u,h=>by simp at h
 |n+1,v::l,0,u,h=>by simpa[D5]using h
 |n+1,v::l,k+1,u,h=>by simp only[D5,zH]at*;exact qyz n l k u h
theorem dy:∀(n:Nat)(l:List U),l.length<=n->(D5 n l).length=n
 |0,l,h=>by simp[D5];exact List.eq_nil_of_length_eq_zero (by omega)
 |n+1,[],h=>by simp[D5,dy n [] (by simp)]
 |n+1,v::l,h=>by simp[D5,dy n l (by simpa using h)]
theorem NG{args:List U}(h:args.length<=n):Gh n0 (D5 n args) X (fr n (PR 0 args)) X:=fun F x tv hx hr hf he=>
 ⟨x,fun m w hf=>bP.refl hf,hx,hr,hf,ad (by rw[<-he.2,dy n args h]) (fun i u hi hl=>by obtain⟨_,h2⟩:=quz args 0 i u hl;exact he.get (qyz n args i u (by simpa using h2))),Ke.refl _ _⟩
def BelS(n:Nat):List (Nat×U)->Prop
 |[]=>True|(_,u)::l=>bB n u/\BelS n l
theorem qu1{n:Nat}:∀{l:List (Nat×U)},BelS n l->∀i u,nS l i=some u->bB n u
 |[],_,i,u,h=>by cases h
 |(j,v)::l,hb,i,u,h=>by simp only[BelS]at hb;simp only[nS,beq_eq]at h;by_cases e:j=i;subst e;simp at h;subst h;exact hb.1;simp only[e,yB,zD]at h;exact qu1 hb.2 i u h
theorem xg{n1:Nat}(h:BelS n1 l):aL n1 (fr n l):=by
 rw[F7];intro u hu;obtain⟨i,hi,rfl⟩:=List.getElem_of_mem hu;have aE:i<n:=by rwa [H6]at hi
 have:=OG n l aE;rw[List.getElem?_eq_getElem hi]at this;simp only[zA]at this;rw[this];rcases hk:nS l i with _|w;simp[bB];exact qu1 h i w hk
theorem Gh.toS{n1:Nat}{X':Sg}(ht:HX l l')(hs:(⟨Vx.cut n1 X.h,n1⟩:Sg)=X')(h1:n0<=n1)(h2:n1<=X.nx)(hb:BelS n1 l')(hh:GR n1 X'.h):Gh n0 (fr n l) X (fr n l') X':=by
 subst hs;exact(Gh.sub ht).trans (Gh.cut h1 h2 (xg hb) hh)
theorem oF{X':Sg}(ht:HX l l')(hs:X=X'):Gh n0 (fr n l) X (fr n l') X':=by
 subst hs;exact Gh.sub ht
def fzS(K:Nat)(b:B)(sz:Nat):List (Nat×U)->List (Nat×U)
 |[]=>[]|(i,u)::l=>(i,fz K b sz u)::fzS K b sz l
theorem qyg(K:Nat)(b:B)(sz:Nat):∀(l:List (Nat×U))(i:Nat),nS (fzS K b sz l) i=(nS l i).map (fz K b sz)
 |[],i=>rfl|(j,u)::l,i=>by simp only[fzS,nS,beq_eq,qyg K b sz l i];by_cases e:j=i<;>simp[e]
theorem Cp(K:Nat)(b:B)(sz n:Nat)(l:List (Nat×U)):jT K b sz (fr n l)=fr n (fzS K b sz l):=by
 refine z9e (by rw[YB,H6]) fun k hk=>?_;have hm:∀(t:List U)(k:Nat),(jT K b sz t)[k]? = (t[k]?).map (fz K b sz):=by
  intro t;induction t with
  |nil=>intro k;simp[jT]|cons u t ih=>intro k;cases k<;>simp[jT,ih]
 rw[hm,OG n l hk,qyg];rcases nS l k with _|w;simp[M9];rfl
theorem Gh.fzS{h':List (Nat×B)}(K:Nat)(b:B)(sz:Nat)(hg:gt X.h K=some b)(hb:∀es cl,b≠.map es cl)(ht:Vx.fzS K b sz l=l')(hh:fzH K b sz X.h=h'):Gh n0 (fr n l) X (fr n l') ⟨h',X.nx⟩:=by
 subst ht;subst hh;rw[<-Cp];exact Gh.freeze sz hg hb
inductive Kw:List (Nat×U)->List (Nat×U)->Prop
 |nil:Kw [] []
 |cons {i:Nat} {u u':U} {l l':List (Nat×U)} (h:Wk u u') (h':Kw l l'):Kw ((i,u)::l) ((i,u')::l')
theorem Kw.look:∀{l l':List (Nat×U)},Kw l l'->∀i u',nS l' i=some u'->∃u,nS l i=some u/\Wk u u'
 |_,_,.nil,i,u',h=>by cases h
 |_,_,.cons (i:=j) h h',i,u',hu=>by simp only[nS,beq_eq]at hu ⊢;by_cases e:j=i;subst e;simp at hu;subst hu;exact⟨_,by simp,h⟩;simp only[e,yB,zD]at hu ⊢;exact h'.look i u' hu
theorem Gh.wkS(h:Kw l l'):Gh n0 (fr n l) X (fr n l') X:=fun F x tv hx hr hf he=>
 ⟨x,fun m w hf=>bP.refl hf,hx,hr,hf,ad (by rw[<-he.2,H6]) (fun i u hi hl=>by obtain⟨w,h1,h2⟩:=h.look i u hl;obtain⟨v,h3,h4⟩:=qvr he hi h1;exact⟨v,h3,h2.rel h4⟩),Ke.refl _ _⟩
theorem Gh.nilS(i:Nat)(e:TypeId)(sz:Nat)(dR:0<sz)(h0:n0<=X.nx)(hi:c7 n l (.tmp i)=some .nils)(hd:dOk n (some i)=true):Gh n0 (fr n l) X (fr n ((i,.vl X.nx 0 0 0)::l)) (newU X (.vec [] e sz 0)):=by
 have h1:=fF hi;have h2:=Gh.nilvec (n0:=n0) (X:=X) i e sz dR h0 (tm:=fr n l) h1;have h3:=sV (n:=n) (l:=l) (d:=some i) (.vl X.nx 0 0 0) hd;simp only[dW,ZP]at h3
 rwa [h3]at h2
variable{c:Operand}
variable{t:Bool}
theorem AG{C:PG}{Q:Exit->List U->Sg->Prop}{p q:Code}(hc:c7 n l c=some (.bool t))(h1:t=true->WPU C n0 p (fr n l) X Q)(h2:t=false->WPU C n0 q (fr n l) X Q):WPU C n0 (.cond c p q) (fr n l) X Q:=WPU.cond (fF hc) h1 h2
variable{T:Tb}
variable{us:List U}
theorem eA{t:Tmp}{rs:List ResultVar}(h:c7 n l (.tmp t)=some u)(hr:oK T X (fr n l) rs=some us):oK T X (fr n l) (.tmp t::rs)=some (u::us):=by
 have:=fF h;simp only[c8]at this;simp[oK,this,hr]
theorem dL:oK T X (fr n l) []=some []:=rfl
variable{t:TypeId}
theorem lZ{a:Tmp}{rs:List ResultVar}(h:bM T X (fr n l) (.load t (.tmp a))=some (u,X))(hr:oK T X (fr n l) rs=some us):oK T X (fr n l) (.cell a t::rs)=some (u::us):=by
 have:nC T X (fr n l) (.load t (.tmp a))=some u:=by have hp:gG T X (fr n l) (.load t (.tmp a))=none:=rfl;have he:nO T X (fr n l) (.load t (.tmp a))=none:=rfl;unfold bM at h;rw[hp]at h;simp only at h;rcases hr:nC T X (fr n l) (.load t (.tmp a))with _|v;rw[hr,he]at h;cases h;rw[hr]at h;simp at h;rw[h]
 simp[oK,this,hr]
section
variable{T:Tb}{X X':Sg}{n:Nat}{l:List (Nat×U)}{u v w:U}
theorem vM{op:Op}(h:gG T X (fr n l) op=some u):bM T X (fr n l) op=some (u,X):=by simp[bM,h]
theorem NI{op:Op}(h0:gG T X (fr n l) op=none)(h:nC T X (fr n l) op=some u):bM T X (fr n l) op=some (u,X):=by simp[bM,h,h0]
variable{q:U×Sg}
theorem HY{op:Op}(h0:gG T X (fr n l) op=none)(h1:nC T X (fr n l) op=none)(h:nO T X (fr n l) op=some q):bM T X (fr n l) op=some q:=by simp[bM,h,h0,h1]
variable{x:Operand}
theorem iQ(h:c7 n l x=some u):bM T X (fr n l) (.move x)=some (u,X):=vM (fF h)
theorem ip(h:c7 n l x=some u):bM T X (fr n l) (.assign x)=some (u,X):=vM (fF h)
variable{a:Operand}
theorem dz{b:Operand}{t:Bool}(hc:c7 n l c=some (.bool t))(ht:t=true)(h:c7 n l a=some u):bM T X (fr n l) (.pick c a b)=some (u,X):=vM (by subst ht;simp only[gG,fF hc];exact fF h)
theorem fa{b:Operand}{t:Bool}(hc:c7 n l c=some (.bool t))(ht:t=false)(h:c7 n l b=some u):bM T X (fr n l) (.pick c a b)=some (u,X):=vM (by subst ht;simp only[gG,fF hc];exact fF h)
variable{off:Nat}
theorem fK{st:Nat}(h:c7 n l x=some (.ptr k st off))(hl:bU X k st=true):bM T X (fr n l) (.nilCheck x)=some (.ptr k st off,X):=vM (by simp only[gG,fF h,hl,zC])
theorem Oq{ps:Array (Nat×Operand)}{qs:List (Nat×U)}(h:I3 n l ps.toList=some qs)(hb:Fy T t qs=some u):bM T X (fr n l) (.build t ps)=some (u,X):=vM (by simp only[gG,td h,hb])
variable{t':TypeId}
variable{y:Operand}
theorem XV{op:BinOp}(hx:c7 n l x=some v)(hy:c7 n l y=some w)(h:g2 (pX T op t) v w=some u):bM T X (fr n l) (.binOp op t x y t')=some (u,X):=vM (by simp only[gG,fF hx,fF hy,R4,h])
theorem ZT{op:BinOp}(hx:c7 n l x=some v)(hy:c7 n l y=some w)(h0:g2 (pX T op t) v w=none)(h:OA T X op t v w=some u):bM T X (fr n l) (.binOp op t x y t')=some (u,X):=vM (by simp only[gG,fF hx,fF hy,R4,h0,h])
variable{k:IntKind}
variable{r:Value}
theorem vP{op:BinOp}{k':IntKind}{a b:Int}(hx:c7 n l x=some (.int k a))(hy:c7 n l y=some (.int k' b))(h:kL op k a k' b=some r)(hr:iI r=some u):bM T X (fr n l) (.binOp op t x y t')=some (u,X):=XV hx hy (by simp only[g2,toV,pX,h,hr])
theorem H4{op:BinOp}{a b:List UInt8}(hx:c7 n l x=some (.str a))(hy:c7 n l y=some (.str b))(h:IL op ⟨⟨a⟩⟩ ⟨⟨b⟩⟩=some r)(hr:iI r=some u):bM T X (fr n l) (.binOp op t x y t')=some (u,X):=XV hx hy (by simp only[g2,toV,pX,h,hr])
theorem TL{op:UnOp}(hx:c7 n l x=some v)(h:toV v=some (r)){q:Value}(hu:RI op r=some q)(hq:iI q=some u):bM T X (fr n l) (.unOp op t x)=some (u,X):=vM (by simp only[gG,fF hx,g1,h,hu,hq])
theorem wy{s d:TypeId}{q:Value}(hx:c7 n l x=some v)(h:toV v=some r)(hu:convX T s d r=some q)(hq:iI q=some u):bM T X (fr n l) (.convert s d x)=some (u,X):=vM (by simp only[gG,fF hx,g1,h,hu,hq])
theorem ef{f:Fn}{first cap:Array Operand}{a b:List U}(h1:LM n l first.toList=some a)(h2:LM n l cap.toList=some b):bM T X (fr n l) (.makeFunc f first cap)=some (.fn f a b,X):=vM (by simp only[gG,Fv h1,Fv h2])
variable{k:Nat}
theorem jW{f:Nat}{fs:Array Field}{fd:Field}{s st:Nat}(hd:T.und t=some (.struct fs))(hf:nth fs.toList f=some fd)(hs:cN T fd.type=some (s+1))(hx:c7 n l x=some (.ptr k st off))(hl:bU X k st=true){iH:Nat}(ho:off+fd.offset=iH):bM T X (fr n l) (.fieldAddr t x f)=some (.ptr k st iH,X):=vM (by subst ho;simp only[gG,fF hx,SI,hd,hf,hs,hl,zC])
variable{q:List U}
theorem ce{f:Nat}{fs:Array Field}{fd:Field}{s:Nat}(hd:T.und t=some (.struct fs))(hf:nth fs.toList f=some fd)(hs:cN T fd.type=some (s+1))(hx:c7 n l x=some (.iptr q)){q':List U}(hq:q.drop fd.offset=q'):bM T X (fr n l) (.fieldAddr t x f)=some (.iptr q',X):=vM (by subst hq;simp only[gG,fF hx,SI,hd,hf,hs])
theorem z9t{i:Nat}(hx:c7 n l x=some (.tup q))(h:nth q i=some u):bM T X (fr n l) (.extract x i)=some (u,X):=vM (by simp only[gG,fF hx,xu,h])
theorem dX{i:Operand}(hx:c7 n l x=some v)(hi:c7 n l i=some w)(h:BN T X t v w=some u):bM T X (fr n l) (.indexAddr t x i)=some (u,X):=vM (by simp only[gG,fF hx,fF hi,h])
variable{O:Type}
variable{e:TypeId}
variable{sz:Nat}
variable{b:Bool}
variable{xs:List O}
variable{i:Int}
theorem Fs(c:O->List U){k:IntKind}{x:O}(hd:T.und t=some (.slice e))(hs:cN T e=some sz)(hc:∀x,(c x).length=sz)(hx:aB xs i=some x)(hq:c x=q):BN T X t (.isl b (xs.map c)) (.int k i)=some (.iptr q):=by
 subst hq;obtain⟨h1,h2,h3⟩:=z3l c hx;have:Nat.beq (c x).length sz=true:=by simp[beq_eq,hc]
 simp only[BN,hd,hs,yA,h1,h2,and_self,if_true,h3,this,zC]
variable{e':TypeId}
variable{K:Nat}
theorem hZ(c:O->List U){st:Nat}{k:IntKind}{x:O}(hd:T.und t=some (.slice e))(hs:cN T e=some sz)(hz:0<sz)(hc:∀x,(c x).length=sz)(hv:wK X K st=some ((xs.map c).flatten,e',sz))(hx:aB xs i=some x):BN T X t (.vl K st 0 xs.length) (.int k i)=some (.ptr K st (0*sz+i.toNat*sz)):=by
 obtain⟨h1,h2,h3⟩:=YJ hx;have cZ:=WG hc hz hx;have hb:Nat.beq sz sz=true:=by simp[beq_eq]
 simp only[BN,hd,hs,hv,hb,zC,h1,h2,ne_eq,cZ,not_false_eq_true,and_self,if_true]
variable{d:TypeDesc}
theorem XY(c:O->List U){st:Nat}{x:O}(hd:T.und t=some d)(ha:rP d=true)(hs:cN T t=some sz)(hc:∀x,(c x).length=sz)(ho:c7 n l o=some (.ptr K st (0*sz+i.toNat*sz)))(hv:gt X.h K=some (.vec (xs.map c).flatten e' sz st))(hx:aB xs i=some x)(hq:c x=q):bM T X (fr n l) (.load t o)=some (.agg q,X):=by
 subst hq;refine NI rfl ?_;have hb:Nat.beq st st=true:=by simp[beq_eq]
 simp only[nC,fF ho,cellsOf,hv,hb,zC,GY,hd,ha,hs,z67 hc hx]
theorem AV(c:O->List U){st:Nat}{x:O}(f:O->U)(hd:T.und t=some d)(ha:rP d=false)(hc:∀x,c x=[f x])(ho:c7 n l o=some (.ptr K st (0*1+i.toNat*1)))(hv:gt X.h K=some (.vec (xs.map c).flatten e' 1 st))(hx:aB xs i=some x):bM T X (fr n l) (.load t o)=some (f x,X):=by
 refine NI rfl ?_;have hb:Nat.beq st st=true:=by simp[beq_eq]
 simp only[nC,fF ho,cellsOf,hv,hb,zC,GY,hd,ha,zD,zc0 (fun x=>by rw[hc];rfl) hc hx]
theorem AW{lo hi mx:Option Operand}{a b c:Option Value}(hx:c7 n l x=some v)(h1:xS (fr n l) lo=some a)(h2:xS (fr n l) hi=some b)(h3:xS (fr n l) mx=some c)(h:IZ T X t v a b c=some u):bM T X (fr n l) (.slice t x lo hi mx)=some (u,X):=vM (by simp only[gG,fF hx,h1,h2,h3,h])
theorem mL:xS (fr n l) none=some none:=rfl
theorem AL{k:IntKind}{z:Int}(h:c7 n l o=some (.int k z)):xS (fr n l) (some o)=some (some (.int k z)):=by simp only[xS,fF h]
theorem XT(c:O->List U){a h m:Nat}{ys:List O}{lo hi:Option Value}(hd:T.und t=some (.slice e))(hs:cN T e=some sz)(hc:∀x,(c x).length=sz)(hb:gZ xs.length xs.length lo hi none=some (a,h,m))(hy:pW (xs.map c) a h=ys.map c):IZ T X t (.isl b (xs.map c)) lo hi none=some (.isl (cond b (Nat.beq h xs.length) false) (ys.map c)):=by
 simp only[IZ,hd,hs,z1m hc xs,if_true,yA,hb,hy]
variable{args:Array Operand}
variable{ts:Array TypeId}
theorem SA(ha:args.toList=[x]){q:List TypeId}(ht:ts.toList=t::q)(hx:c7 n l x=some v)(h:lenU T X t v=some u):bM T X (fr n l) (.call { callee:=.builtin .len,args:=args,argTypes:=ts })=some (u,X):=vM (by simp only[gG,ha,ht,mB,fF hx,h])
theorem zb4(c:O->List U)(hd:T.und t=some (.slice e)):lenU T X t (.isl b (xs.map c))=some (.int .i64 xs.length):=by simp[lenU,hd]
theorem z9u{xs:List Operand}{a:Value}{b:List Value}(ha:args.toList=x::xs)(hx:c7 n l x=some v)(hl:LM n l xs=some us)(h1:toV v=some a)(h2:eP us=some b)(h:yN S7 a b=some r)(hr:iI r=some u):bM T X (fr n l) (.call { callee:=.builtin .max,args:=args,argTypes:=ts })=some (u,X):=vM (by simp only[gG,ha,mB,fF hx,Fv hl,h1,h2,h,hr])
theorem ee{xs:List Operand}{a:Value}{b:List Value}(ha:args.toList=x::xs)(hx:c7 n l x=some v)(hl:LM n l xs=some us)(h1:toV v=some a)(h2:eP us=some b)(h:yN S6 a b=some r)(hr:iI r=some u):bM T X (fr n l) (.call { callee:=.builtin .min,args:=args,argTypes:=ts })=some (u,X):=vM (by simp only[gG,ha,mB,fF hx,Fv hl,h1,h2,h,hr])
variable{cs:List U}
theorem iP{st:Nat}(hd:T.und t=some d)(ha:rP d=true)(hs:cN T t=some sz)(hx:c7 n l x=some (.ptr k st off))(hc:cellsOf X k st=some q)(h:kS q off sz=some cs):bM T X (fr n l) (.load t x)=some (.agg cs,X):=NI rfl (by simp only[nC,fF hx,hc,GY,hd,ha,hs,h,zC])
theorem oO{st:Nat}(hd:T.und t=some d)(ha:rP d=false)(hx:c7 n l x=some (.ptr k st off))(hc:cellsOf X k st=some q)(h:nth q off=some u):bM T X (fr n l) (.load t x)=some (u,X):=NI rfl (by simp only[nC,fF hx,hc,GY,hd,ha,h,zD])
theorem z9o(hd:T.und t=some d)(ha:rP d=true)(hs:cN T t=some sz)(hx:c7 n l x=some (.iptr q))(h:kS q 0 sz=some cs):bM T X (fr n l) (.load t x)=some (.agg cs,X):=NI rfl (by simp only[nC,fF hx,GY,hd,ha,hs,h,zC])
theorem Np(hd:T.und t=some d)(ha:rP d=false)(hx:c7 n l x=some (.iptr q))(h:nth q 0=some u):bM T X (fr n l) (.load t x)=some (u,X):=NI rfl (by simp only[nC,fF hx,GY,hd,ha,h,zD])
theorem ZV(hx:c7 n l x=some v)(h:xT v=some cs)(hk:okL cs=true):bM T X (fr n l) (.box e x)=some (.ptr X.nx 0 0,newU X (.row cs e)):=HY rfl rfl (by simp only[nO,fF hx,h,hk,zC])
variable{z:Value}
theorem qyu{a b:Nat}{zu:List U}(hi:T.inf e=some (a,b,z))(hz:pV z.cells.toList=some zu)(hk:okL zu=true):bM T X (fr n l) (.alloc e)=some (.ptr X.nx 0 0,newU X (.row zu e)):=HY rfl rfl (by simp only[nO,hi,hz,hk,zC])
theorem qyx{st:Nat}{q':List U}(hs:cN T t=some sz)(ha:c7 n l a=some (.ptr k st off))(hx:c7 n l x=some v)(hc:xT v=some cs)(hl:Nat.beq cs.length sz=true)(hk:okL cs=true)(hg:cellsOf X k st=some q)(hp:pU q off (GU X k cs)=some q')(DB:M2 X k q'=some X'):bM T X (fr n l) (.store t a x)=some (.junk,X'):=HY rfl rfl (by simp only[nO,fF ha,fF hx,XS,hs,hc,hl,hk,zC,hg,hp,DB])
theorem Tq{ps:Array (Nat×Operand)}{qs:List (Nat×U)}{q:U×Sg}(h:I3 n l ps.toList=some qs)(hb:Pk T X t k qs=some q):bM T X (fr n l) (.buildSlice t k ps)=some q:=HY rfl rfl (by simp only[nO,td h,hb])
theorem Tp{q:U×Sg}(hx:c7 n l x=some v)(hy:c7 n l y=some w)(hb:Lc T X t v w=some q):bM T X (fr n l) (.makeSlice t x y)=some q:=HY rfl rfl (by simp only[nO,fF hx,fF hy,hb])
variable{xt:TypeId}
theorem uU{q:U×Sg}(ha:args.toList=[x,y])(ht:ts.toList=[t,xt])(hx:c7 n l x=some v)(hy:c7 n l y=some w)(h:MC T X t xt v w=some q):bM T X (fr n l) (.call { callee:=.builtin .append,args:=args,argTypes:=ts })=some q:=HY rfl rfl (by simp only[nO,ha,ht,mB,fF hx,fF hy,xw,h])
theorem gC{c:Call}{f:Operand}{g:FuncId}{fn:Func}{first cap a7:List U}(hc:c.callee=.value f)(hf:c7 n l f=some (.fn (.func g) first cap))(hg:T.fn g=some fn)(hb:fn.body.isSome=true)(ha:LM n l c.args.toList=some a7){args:List U}(he:first++a7++cap=args):k8 T (fr n l) (.call c)=some (g,args):=by subst he;simp only[k8,hc,fF hf,hg,hb,zC,Fv ha]
variable{e2:TypeId}
variable{by_:Nat}
theorem da(c:O->List U)(ys:List O)(hd:T.und t=some (.slice e))(dK:T.und xt=some (.slice e2))(hi:T.inf e=some (sz+1,by_,z))(hz:Nat.beq z.cells.toList.length (sz+1)=true)(hw:wJ X (sz+1) w=some (ys.length,(ys.map c).flatten))(hr:ys.length*by_<=140737488355328/\ys.length<=140737488355328):MC T X t xt .nils w=some (.vl X.nx 0 0 ys.length,newU X (.vec (ys.map c).flatten e (sz+1) 0)):=by
 simp only[MC,hd,dK,hi,hz,zC,hw,hr,and_self,if_true]
theorem MD(c:O->List U)(ys:List O){a:Nat}(hd:T.und t=some (.slice e))(dK:T.und xt=some (.slice e2))(hi:T.inf e=some (sz+1,by_,z))(hz:Nat.beq z.cells.toList.length (sz+1)=true)(hq:rowOf X a=some q)(ho:Nat.ble off q.length=true)(hw:wJ X (sz+1) w=some (ys.length,(ys.map c).flatten))(hr:ys.length*by_<=140737488355328/\ys.length<=140737488355328):MC T X t xt (.sl a off 0 0) w=some (.vl X.nx 0 0 ys.length,newU X (.vec (ys.map c).flatten e (sz+1) 0)):=by
 have Bh:=zY ho;have:kS q off (0*(sz+1))=some []:=by simp[kS,Bh]
 simp only[MC,hd,dK,hi,hz,zC,hw,hq,this,hr,and_self,if_true]
theorem SC(c:O->List U)(ys:List O){a st:Nat}(hd:T.und t=some (.slice e))(dK:T.und xt=some (.slice e2))(hi:T.inf e=some (sz+1,by_,z))(hz:Nat.beq z.cells.toList.length (sz+1)=true)(hc:∀x,(c x).length=sz+1)(hg:gt X.h a=some (.vec (xs.map c).flatten e (sz+1) st))(hw:wJ X (sz+1) w=some (ys.length,(ys.map c).flatten))(hr:(xs.length+ys.length)*by_<=140737488355328/\xs.length+ys.length<=140737488355328):MC T X t xt (.vl a st 0 xs.length) w=some (.vl a (st+1) 0 (xs++ys).length,⟨ug X.h a (.vec ((xs++ys).map c).flatten e (sz+1) (st+1)),X.nx⟩):=by
 have b1:Nat.beq st st=true:=by simp[beq_eq]
 have b2:Nat.beq e e=true:=by simp[beq_eq]
 have b3:Nat.beq (sz+1) (sz+1)=true:=by simp[beq_eq]
 have hs:=zbr hc xs;have hl:=MH hc xs;rw[z7f,zU];simp only[MC,hd,dK,hi,hz,zC,hw,hg,b1,b2,b3,hs,hl,hr.1,hr.2,true_and,and_true,or_true,if_true]
theorem H7(c:O->List U)(hc:∀x,(c x).length=sz):wJ X sz (.isl b (xs.map c))=some (xs.length,(xs.map c).flatten):=by simp only[wJ,z1m hc xs,if_true,yA]
theorem Ob(c:O->List U)(ys:List O)(hq:rowOf X K=some q)(hs:kS q off (k*sz)=some cs)(hl:k=ys.length)(hc:rN cs=(ys.map c).flatten):wJ X sz (.sl K off k k)=some (ys.length,(ys.map c).flatten):=by
 subst hl;simp only[wJ,hq,hs,hc]
theorem aZ{a b:Nat}(h:T.inf t=some (a,b,z)):cN T t=some a:=by simp only[cN,h]
theorem vo{st:Nat}(h:gt X.h K=some (.vec q e sz st)):wK X K st=some (q,e,sz):=by
 have b:Nat.beq st st=true:=by simp[beq_eq]
 simp only[wK,h,b,zC]
theorem z9n{st m:Nat}(hd:T.und t=some (.slice e))(h:gt X.h K=some (.vec q e' sz st)):lenU T X t (.vl K st 0 m)=some (.int .i64 m):=by
 have b:Nat.beq st st=true:=by simp[beq_eq]
 simp only[lenU,hd,bU,h,B.st,b,zC]
end
theorem Ap(k:IntKind)(a b:Int):kL .add k a k b=some (.int k (k.wrap (a+b))):=by simp[kL]
theorem z9m(k:IntKind)(a b:Int):kL .sub k a k b=some (.int k (k.wrap (a-b))):=by simp[kL]
theorem Aj(k:IntKind)(a b:Int):kL .mul k a k b=some (.int k (k.wrap (a*b))):=by simp[kL]
theorem wc(k:IntKind){a b:Int}(h:¬ b=0):kL .quo k a k b=some (.int k (k.wrap (a.tdiv b))):=by simp[kL,h]
theorem z9k(k:IntKind){a b:Int}(h:¬ b=0):kL .rem k a k b=some (.int k (a.tmod b)):=by simp[kL,h]
theorem ei(k:IntKind)(a b:Int):kL .eql k a k b=some (.bool (a==b)):=by simp[kL]
theorem Ai(k:IntKind)(a b:Int):kL .neq k a k b=some (.bool (a != b)):=by simp[kL]
theorem Ak(k:IntKind)(a b:Int):kL .lss k a k b=some (.bool (decide (a<b))):=by simp[kL]
theorem Am(k:IntKind)(a b:Int):kL .leq k a k b=some (.bool (decide (a<=b))):=by simp[kL]
theorem An(k:IntKind)(a b:Int):kL .gtr k a k b=some (.bool (decide (a>b))):=by simp[kL]
theorem Ao(k:IntKind)(a b:Int):kL .geq k a k b=some (.bool (decide (a>=b))):=by simp[kL]
theorem Gh.row{n0:Nat}{tm:List U}{X:Sg}{K:Nat}{q q':List U}{e:TypeId}(hg:gt X.h K=some (.row q e))(hk:okL q'=true)(gU:∀x vs,x.X=X->kF x->bF x q vs->bF x q' vs):Gh n0 tm X tm ⟨ug X.h K (.row q' e),X.nx⟩:=fun F x tv hx hr hf he=>by
 subst hx
 let y:Cx:=⟨x.Y,⟨ug x.X.h K (.row q' e),x.X.nx⟩,x.s⟩
 have CB:∀k,gt y.X.h k=if K=k then some (.row q' e)else gt x.X.h k:=fun k=>by show gt (ug x.X.h K (.row q' e)) k=_;rw[BK,hg];rfl
 have fW:Mo x.X.nx x y:=⟨fun k _ h2=>⟨h2,fun b hb=>by rw[CB]at hb;by_cases ek:K=k;subst ek;simp only[if_true,zA]at hb;subst hb;exact⟨_,hg,zF _,fun _=>⟨rfl,fun l e sz st h=>by cases h⟩⟩;simp only[ek,if_false]at hb;exact⟨b,hb,zF _,fun _=>⟨rfl,fun l e sz st h=>⟨l,h⟩⟩⟩⟩,fun _ _ _ h=>h⟩;refine⟨y,fun m w hf=>bP.refl hf,rfl,⟨fun k b hb=>?_,fun k k' b b' i hb cU=>?_,hr.bd⟩,fun i b J=>?_,fW.ke.E he.bel he,fun u v hb hr=>fW.ke u v (aD.bel u v hr) hr⟩;rw[CB]at hb;by_cases ek:K=k;subst ek;simp only[if_true,zA]at hb;subst hb;obtain⟨h1,k1,i,l',e1,e2,e3⟩:=hr.ok K _ hg;have:=gU x l' rfl hr e3;exact⟨h1,hk,i,l',e1,e2,fW.ke.E this.bel this⟩;simp only[ek,if_false]at hb;obtain⟨h1,h2⟩:=hr.ok k b hb;exact⟨h1,h2.mono fW rfl fun _ _ _ h=>h⟩;have old:∀k b,gt y.X.h k=some b->∃c,gt x.X.h k=some c:=fun k b hb=>by rw[CB]at hb;by_cases ek:K=k;subst ek;exact⟨_,hg⟩;simp only[ek,if_false]at hb;exact⟨b,hb⟩
 obtain⟨c,hc⟩:=old k b hb;obtain⟨c',mH⟩:=old k' b' cU;exact hr.inj k k' c c' i hc mH;obtain⟨h1,h2⟩:=hf i b J;refine⟨h1,fun k c hc=>?_⟩;rw[CB]at hc;by_cases ek:K=k;subst ek;exact h2 _ _ hg;simp only[ek,if_false]at hc;exact h2 k c hc
theorem Gh.fresh{n0:Nat}{tm:List U}{X:Sg}(e:TypeId)(sz:Nat)(dR:0<sz)(h0:n0<=X.nx):Gh n0 tm X tm (newU X (.vec [] e sz 0)):=fun F x tv hx hr hf he=>by
 subst hx;have ho:=xz hr e sz dR;exact⟨⟨mA x.Y x.X.nx none,newU x.X (.vec [] e sz 0),x.s⟩,fun m w hf=>bP.refl hf,rfl,ho.h,ho.fr F hf,ho.mo.ke.E he.bel he,ho.mo.ke.le h0⟩
theorem xI{n0:Nat}{tm:List U}{X:Sg}(K i:Nat){q:List U}{e0:TypeId}(e:TypeId)(sz:Nat)(dR:0<sz)(h0:n0<=X.nx)(hg:gt X.h K=some (.row q e0))(hi:nth q i=some .nils):Gh n0 tm X tm ⟨ug (newU X (.vec [] e sz 0)).h K (.row (q.set i (.vl X.nx 0 0 0)) e0),X.nx+1⟩:=fun F x tv hx hr hf he=>by
 subst hx;have hK:=(hr.ok K _ hg).1;obtain⟨_,k1,_⟩:=hr.ok K _ hg;have ho:=xz hr e sz dR;rw[iZ]at hi
 let y:Cx:=⟨mA x.Y x.X.nx none,newU x.X (.vec [] e sz 0),x.s⟩
 have Q3:gt y.X.h K=some (.row q e0):=by show gt ((x.X.nx,_)::x.X.h) K=_;rw[dY,if_neg (by omega),hg]
 let z:Cx:=⟨y.Y,⟨ug y.X.h K (.row (q.set i (.vl x.X.nx 0 0 0)) e0),y.X.nx⟩,y.s⟩
 have CB:∀k,gt z.X.h k=if K=k then some (.row (q.set i (.vl x.X.nx 0 0 0)) e0)else gt y.X.h k:=fun k=>by show gt (ug y.X.h K _) k=_;rw[BK,Q3];rfl
 have fW:Mo y.X.nx y z:=⟨fun k _ h2=>⟨h2,fun b hb=>by rw[CB]at hb;by_cases ek:K=k;subst ek;simp only[if_true,zA]at hb;subst hb;exact⟨_,Q3,zF _,fun _=>⟨rfl,fun l e sz st h=>by cases h⟩⟩;simp only[ek,if_false]at hb;exact⟨b,hb,zF _,fun _=>⟨rfl,fun l e sz st h=>⟨l,h⟩⟩⟩⟩,fun _ _ _ h=>h⟩;have hey:=ho.mo.ke.E he.bel he;have hfy:=ho.fr F hf;refine⟨z,fun m w hf=>bP.refl hf,rfl,⟨fun k b hb=>?_,fun k k' b b' j hb cU=>?_,ho.h.bd⟩,fun j b J=>?_,fW.ke.E hey.bel hey,fun u v hb hr=>fW.ke u v (aD.bel u v (ho.mo.ke.le h0 u v hb hr)) (ho.mo.ke.le h0 u v hb hr)⟩;rw[CB]at hb;by_cases ek:K=k;subst ek;simp only[if_true,zA]at hb;subst hb;obtain⟨h1,k1,j,l',e1,e2,e3⟩:=ho.h.ok K _ Q3;refine⟨h1,?_,j,l',e1,e2,?_⟩;refine(OH _).2 fun u hu=>?_;rcases List.mem_or_eq_of_mem_set hu with h |h
 exact(OH q).1 k1 u h;subst h;rfl;obtain⟨v,h3,h4⟩:=e3.get hi;simp only[aD]at h4;subst h4;have:=e3.set i (og (x:=x) (e:=e) (sz:=sz) (o:=none) (by simp));rw[qze h3]at this;exact fW.ke.E this.bel this;simp only[ek,if_false]at hb;obtain⟨h1,h2⟩:=ho.h.ok k b hb;exact⟨h1,h2.mono fW rfl fun _ _ _ h=>h⟩;have old:∀k b,gt z.X.h k=some b->∃c,gt y.X.h k=some c:=fun k b hb=>by rw[CB]at hb;by_cases ek:K=k;subst ek;exact⟨_,Q3⟩;simp only[ek,if_false]at hb;exact⟨b,hb⟩
 obtain⟨c,hc⟩:=old k b hb;obtain⟨c',mH⟩:=old k' b' cU;exact ho.h.inj k k' c c' j hc mH;obtain⟨h1,h2⟩:=hfy j b J;refine⟨h1,fun k c hc=>?_⟩;rw[CB]at hc;by_cases ek:K=k;subst ek;exact h2 _ _ Q3;simp only[ek,if_false]at hc;exact h2 k c hc
theorem m5(k:IntKind)(x:Int):(cI k x).length=1:=rfl
theorem OD(x:List UInt8):(cS x).length=1:=rfl
theorem SB{O:Type}(c:O->List U)(x:List O):(cL c x).length=1:=rfl
section
variable{T:Tb}{X X':Sg}{n:Nat}{l:List (Nat×U)}{u v w:U}
theorem za7{a b:List UInt8}(h:a.length+b.length<=9223372036854775807):IL .add ⟨⟨a⟩⟩ ⟨⟨b⟩⟩=some (.string ⟨(a++b).toArray⟩):=by
 have:¬ (((a.length+b.length:Nat):Int)>9223372036854775807):=by omega
 simp only[IL,this,if_false]
end
theorem bE.post{P:Program}{f:FuncId}{args:List U}{X:Sg}{R R':U->Sg->Prop}(h:bE P f args X R)(hg:∀u X1,R u X1->∃u' R0,X.nx<=R0.nx/\Gh X.nx [u] X1 [u'] R0/\R' u' R0):bE P f args X R':=fun F x vs m w bH hx hh m7 he fN dB=>by
 refine(h F x vs m w bH hx hh m7 he fN dB).mono ?_;rintro e w₁ ⟨y,aH,u,v,cv,h1,h2,h3,h4,h5,h6,h7,h8,h9⟩;obtain⟨u',R0,g1,g2,g3⟩:=hg u y.X h2;obtain⟨z,z1,z2,z3,z4,z5,z6⟩:=g2 F y [v] rfl h5 h6 (bF.cons h7 (bF.nil y));obtain⟨v0,Lo,e0,z7,_⟩:=z5.inv;cases e0;have d8:=z1 aH w₁ h3.fits;exact⟨z,aH,u',v,cv,h1,z2 ▸ g3,h3.trans d8,h4.ext (aM.refl _ _) d8.nx,z3,z4,z7,by rw[hx]at h8 ⊢;exact h8.trans z6,by rw[hx,z2];exact g1⟩
mutual
theorem ae(Z:Nat->Nat):(u:U)->bB 0 u->rU Z u=u
 |.ptr k _ _,h=>by simp[bB]at h
 |.sl k _ _ _,h=>by simp[bB]at h
 |.vl k _ _ _,h=>by simp[bB]at h
 |.map k,h=>by simp[bB]at h
 |.iptr l,h=>by simp only[bB]at h;simp[rU,MF Z l h]
 |.isl t l,h=>by simp only[bB]at h;simp[rU,dx Z l h]
 |.fn f a b,h=>by simp only[bB]at h;simp[rU,MF Z a h.1,MF Z b h.2]
 |.agg l,h=>by simp only[bB]at h;simp[rU,MF Z l h]
 |.tup l,h=>by simp only[bB]at h;simp[rU,MF Z l h]
 |.junk,_=>rfl|.bool _,_=>rfl
 |.int _ _,_=>rfl|.str _,_=>rfl
 |.nilp,_=>rfl|.nils,_=>rfl
 |.nilm,_=>rfl|.nilf,_=>rfl
 |.nili,_=>rfl
theorem MF(Z:Nat->Nat):(l:List U)->aL 0 l->j7 Z l=l
 |[],_=>rfl|u::l,h=>by simp only[aL]at h;simp[j7,ae Z u h.1,MF Z l h.2]
theorem dx(Z:Nat->Nat):(l:List (List U))->mP 0 l->yH Z l=l
 |[],_=>rfl|c::l,h=>by simp only[mP]at h;simp[yH,MF Z c h.1,dx Z l h.2]
end
section
variable{P:Program}{T:Tb}{a9 r:List Oper}{o:Oper}{n:Nat}{l:List (Nat×U)}{X:Sg}{K:List U->Sg->Prop}
theorem kJ{C:PG}{f:FuncId}{args:List U}{R:U->Sg->Prop}(hw:cJ a9 (fr n l) o=some true)(hc:k8 T (fr n l) o.op=some (f,args))(k9:bE C.prog f args X R){d:Tmp}(he:o.dst=some d)(hd:Nat.blt d n=true)(hk:∀u X',R u X'->RU C T a9 r (fr n ((d,u)::l)) X' K):RU C T a9 (o::r) (fr n l) X K :=
 RU.call hw hc k9 (fun u X' h=>by rw[he,sV (d:=some d) u hd];exact hk u X' h)
end
section
variable{Q:Exit->List U->Sg->Prop}{K:List U->Sg->Prop}{tm:List U}{X:Sg}{i j n0:Nat}{E:List U->Sg->Prop}
theorem q1(h:K tm X):ET K Q .normal tm X:=h
theorem q2(h:Q (.exit i) tm X):ET K Q (.exit i) tm X:=h
theorem q3(h:Q .ret tm X):ET K Q .ret tm X:=h
theorem q4(h:Q .normal tm X):BO i Q .normal tm X:=h
theorem q5(h:Q .ret tm X):BO i Q .ret tm X:=h
theorem q6(h:Q .normal tm X):BO i Q (.exit i) tm X:=Uv h
theorem q7(lS:¬ j=i)(h:Q (.exit j) tm X):BO i Q (.exit j) tm X:=Uu lS h
theorem q8(h:∃tm' X',E tm' X'/\n0<=X'.nx/\Gh n0 tm X tm' X'):S4 n0 E Q .normal tm X:=h
theorem q9(h:Q .ret tm X):S4 n0 E Q .ret tm X:=h
theorem q0(h:Q (.exit i) tm X):S4 n0 E Q (.exit i) tm X:=h
end
theorem z61:∀{h:List (Nat×B)}{k:Nat}{b:B},gt h k=some b->ug h k b=h
 |[],k,b,hg=>by cases hg
 |(j,c)::h,k,b,hg=>by simp only[gt,ug,beq_eq]at*;by_cases e:j=k;subst e;simp only[yC,zC,zA]at*;rw[hg];simp only[e,yB,zD]at*;rw[z61 hg]
variable{n:Nat}
theorem bP.trunc{m:Nm}{s:S}{w:World}(hf:i4 m s w){i:Nat}{l:List Value}{e:Nat}(hl:lk s.h i=some (.inl (l,e,n+2)))(j:Nat):bP m s w m ⟨up s.h i (.inl (l.take j,e,n+2)),s.nx⟩ w:=by
 refine bP.write hf hl rfl (fun k hk=>rfl) rfl rfl rfl rfl (zF _) fun m' ha=>?_;obtain⟨pre,rest,h1,h2,h3⟩:=(hf m' ha).ok i _ hl;refine⟨pre,aJ m' (l.drop j)++rest,?_,h2,?_⟩;rw[h1];congr 3;have:aJ m' l=aJ m' (l.take j)++aJ m' (l.drop j):=by rw[<-yS,List.take_append_drop]
 rw[this];simp[zT];have e1:(aJ m' (l.drop j)).length=l.length-j:=by rw[mR];simp
 rw[zU,e1,List.length_take];omega
theorem Gh.trunc{n0:Nat}{tm:List U}{X:Sg}{K:Nat}{l:List U}{e:TypeId}{sz st:Nat}(hg:gt X.h K=some (.vec l e sz st))(j:Nat):Gh n0 tm X tm ⟨ug X.h K (.vec (l.take j) e sz st),X.nx⟩:=fun F x tv hx hr hf he=>by
 subst hx;obtain⟨_,k1,k2,k3⟩:=hr.ok K _ hg;rcases k3 with⟨rfl,eE⟩|⟨i,lv,h1,h2,h3⟩;rw[List.take_nil,z61 hg];exact⟨x,fun m w hf=>bP.refl hf,rfl,hr,hf,he,Ke.refl _ _⟩;have ho:=Gq hr (c:=.inl (lv.take j,e,sz+2)) (bK:=.vec (l.take j) e sz st) hg h1 h2 rfl (by rintro l e sz st h;cases h;exact⟨_,rfl⟩) fun y q1 q2 hm=>⟨OP k1 j,k2,.inr ⟨i,lv.take j,q1,q2,(hm.ke.E h3.bel h3).take j⟩⟩
 refine⟨_,fun m w hf=>bP.trunc hf h2 j,rfl,ho.h,ho.fr F hf,?_,?_⟩;exact he.mono ho.mo he.bel;exact fun u v hb hv=>aD.mono ho.mo u v (aD.bel u v hv) hv
variable{O:Type}
variable{n0:Nat}
variable{tm:List U}
variable{X:Sg}
variable{K:Nat}
variable{xs:List O}
variable{e:TypeId}
variable{sz:Nat}
theorem Gh.truncL(c:O->List U){st:Nat}(hc:∀x,(c x).length=sz)(hg:gt X.h K=some (.vec (xs.map c).flatten e sz st))(j:Nat):Gh n0 tm X tm ⟨ug X.h K (.vec ((xs.take j).map c).flatten e sz st),X.nx⟩:=by
 have:=Gh.trunc (n0:=n0) (tm:=tm) hg (j*sz)
 rwa [iz hc]at this
theorem Hb(p:Nat->Bool):∀(h:List (Nat×B))(k:Nat),gt (h.filter fun x=>p x.1) k=if p k then gt h k else none
 |[],k=>by simp[gt]
 |(j,b)::h,k=>by
  rw[List.filter_cons];cases hp:p j with
  |true=>simp only[if_true,dY,Hb p h k];by_cases e:j=k;subst e;simp[hp];simp[e]|false=>simp only[Bool.false_eq_true,if_false,Hb p h k,dY];by_cases e:j=k;subst e;simp[hp];simp[e]
theorem W4(p:Nat->Bool):Gh n0 tm X tm ⟨X.h.filter fun x=>p x.1,X.nx⟩:=fun F x tv hx hr hf he=>by
 subst hx;have mo:∀n,Mo n x ⟨x.Y,⟨x.X.h.filter fun y=>p y.1,x.X.nx⟩,x.s⟩:=fun n=>⟨fun k _ h2=>⟨h2,fun b' cU=>by simp only[Hb]at cU;split at cU;exact⟨b',cU,zF _,fun _=>⟨rfl,fun l e sz st h=>⟨l,h⟩⟩⟩;cases cU⟩,fun _ _ _ h=>h⟩;refine⟨⟨x.Y,⟨x.X.h.filter fun y=>p y.1,x.X.nx⟩,x.s⟩,fun m w hf=>bP.refl hf,rfl,⟨?_,?_,hr.bd⟩,?_,he.mono (mo _) he.bel,fun u v hb hv=>aD.mono (mo _) u v (aD.bel u v hv) hv⟩;intro k b hb;simp only[Hb]at hb;split at hb;obtain⟨h1,h2⟩:=hr.ok k b hb;exact⟨h1,h2.mono (mo _) rfl (fun i c _ h=>h)⟩;cases hb;intro k k' b b' i hb cU h1 h2;simp only[Hb]at hb cU;split at hb;split at cU;exact hr.inj k k' b b' i hb cU h1 h2;cases cU;cases hb;intro i b J;obtain⟨h1,h2⟩:=hf i b J;refine⟨h1,fun k c hc=>?_⟩;simp only[Hb]at hc;split at hc;exact h2 k c hc;cases hc
def mK{O:Type}(l:List O)(off n:Nat)(i:Int):Option O:=if 0<=i/\i<(n:Int)then l[off+i.toNat]? else none
variable{off:Nat}
variable{i:Int}
variable{x:O}
theorem YI{l:List O}(h:mK l off n i=some x):0<=i/\i<(n:Int)/\l[off+i.toNat]? = some x:=by
 unfold mK at h;split at h;rename_i hi;exact⟨hi.1,hi.2,h⟩;cases h
section
variable{O:Type}{c:O->List U}{sz:Nat}(hc:∀x,(c x).length=sz)
include hc
theorem aw{xs:List O}{j:Nat}{x:O}(h:xs[j]? = some x):kS (xs.map c).flatten (j*sz) sz=some (c x):=by
 have hj:=(zG.1 h).1;unfold kS;rw[MH hc,jf hc];have e:xs.drop j=x::xs.drop (j+1):=by rw[List.drop_eq_getElem_cons hj];congr;exact(zG.1 h).2
 rw[e,if_pos (by rw[<-Nat.succ_mul];exact Nat.mul_le_mul_right _ hj)];simp only[zQ,List.flatten_cons];have:=hc x;rw[<-this,List.take_left'];rfl
theorem fh{xs:List O}{j:Nat}(h:j<xs.length)(x:O):pU (xs.map c).flatten (j*sz) (c x)=some ((xs.set j x).map c).flatten:=by
 unfold pU;rw[MH hc,hc,if_pos (by rw[<-Nat.succ_mul];exact Nat.mul_le_mul_right _ h),<-Nat.succ_mul,jf hc,iz hc,List.set_eq_take_append_cons_drop,if_pos h];simp
end
section
variable{T:Tb}{X X':Sg}{n:Nat}{l:List (Nat×U)}{u v w:U}
theorem z0j{q:List U}{j:Nat}{u:U}(h:kS q j 1=some [u]):nth q j=some u:=by
 unfold kS at h;split at h;rename_i hj;simp only[zA]at h;rw[iZ];have:((q.drop j).take 1)[0]? = some u:=by rw[h];rfl
 simpa using this;cases h
variable{m:Nat}
theorem Es(c:O->List U){t e':TypeId}{st:Nat}{y:O}{o z:Operand}{cs:List U}{h':List (Nat×B)}(hs:cN T t=some sz)(hc:∀x,(c x).length=sz)(ho:c7 n l o=some (.ptr K st (off*sz+i.toNat*sz)))(hz:c7 n l z=some v)(uI:xT v=some cs)(hk:okL cs=true)(hl:Nat.beq cs.length sz=true)(hy:rN cs=c y)(hv:gt X.h K=some (.vec (xs.map c).flatten e' sz st))(hx:mK xs off m i=some x)(DB:ug X.h K (.vec ((xs.set (off+i.toNat) y).map c).flatten e' sz st)=h'):bM T X (fr n l) (.store t o z)=some (.junk,⟨h',X.nx⟩):=by
 subst DB;have hb:Nat.beq st st=true:=by simp
 have hj:=(zG.1 (YI hx).2.2).1;have hp:=fh hc hj y;rw[Nat.add_mul]at hp;exact HY rfl rfl (by simp only[nO,fF ho,fF hz,XS,hs,uI,hl,hk,zC,cellsOf,hv,hb,GU,hy,hp,M2])
theorem oP(h:aB xs i=some x):mK xs 0 xs.length i=some x:=by
 obtain⟨h1,h2,h3⟩:=YJ h;unfold mK;rw[if_pos ⟨h1,h2⟩,Nat.zero_add];exact h3
theorem O6(c:O->List U){t e':TypeId}{st a h q:Nat}{lo hi:Option Value}(hd:T.und t=some (.slice e))(hs:cN T e=some sz)(hc:∀x,(c x).length=sz)(hv:wK X K st=some ((xs.map c).flatten,e',sz))(hm:off+m<=xs.length)(hb:gZ m m lo hi none=some (a,h,q)):IZ T X t (.vl K st off m) lo hi none=some (.vl K st (off+a) (h-a)):=by
 have b:Nat.beq sz sz=true:=by simp[beq_eq]
 have hl:(off+m)*sz<=(xs.map c).flatten.length:=by rw[MH hc];exact Nat.mul_le_mul_right _ hm
 simp only[IZ,hd,hs,hv,b,zC,hb,hl,if_true]
theorem zq(c:O->List U){st:Nat}(hc:∀x,(c x).length=sz)(hv:wK X K st=some ((xs.map c).flatten,e,sz))(hm:off+m<=xs.length):wJ X sz (.vl K st off m)=some (((xs.drop off).take m).length,(((xs.drop off).take m).map c).flatten):=by
 have b:Nat.beq sz sz=true:=by simp[beq_eq]
 have hl:off*sz+m*sz<=(xs.map c).flatten.length:=by rw[MH hc,<-Nat.add_mul];exact Nat.mul_le_mul_right _ hm
 have e1:((xs.drop off).take m).length=m:=by simp;omega
 simp only[wJ,hv,b,zC,kS,hl,if_true,jf hc,iz hc,e1]
end
class En(a b:Nat):Prop where
 h:a<b
instance{b:Nat}:En 0 (b+1):=⟨Nat.succ_pos _⟩
instance{a b:Nat}[q:En a b]:En (a+1) (b+1):=⟨Nat.succ_lt_succ q.h⟩
class BF{O:Type}(c:O->List U):Prop where
 h:∀n x,aL n (c x)
instance(k:IntKind):BF (cI k):=⟨fun n x=>Fz n k x⟩
instance:BF cS:=⟨z8y⟩
instance{O:Type}(c:O->List U)[q:BF c]:BF (cL c):=⟨fun n x=>Ei n (q.h n) x⟩
class BU(n:Nat)(u:U):Prop where
 h:bB n u
class eU(n:Nat)(l:List U):Prop where
 h:aL n l
instance(n:Nat):eU n []:=⟨by simp[aL]⟩
instance(n:Nat)(u:U)(l:List U)[a:BU n u][b:eU n l]:eU n (u::l):=⟨by simp only[aL];exact⟨a.h,b.h⟩⟩
instance{O:Type}(n:Nat)(c:O->List U)(l:List O)[q:BF c]:eU n (l.map c).flatten:=⟨BP n (q.h n) l⟩
instance(n:Nat)(b:Bool):BU n (.bool b):=⟨by simp[bB]⟩
instance(n:Nat)(k:IntKind)(z:Int):BU n (.int k z):=⟨by simp[bB]⟩
instance(n:Nat)(s:List UInt8):BU n (.str s):=⟨by simp[bB]⟩
instance(n:Nat):BU n .nils:=⟨by simp[bB]⟩
instance(n k st off:Nat)[q:En k n]:BU n (.ptr k st off):=⟨by simp only[bB];exact q.h⟩
instance(n k off m c:Nat)[q:En k n]:BU n (.sl k off m c):=⟨by simp only[bB];exact q.h⟩
instance(n k st off m:Nat)[q:En k n]:BU n (.vl k st off m):=⟨by simp only[bB];exact q.h⟩
instance(n k:Nat)[q:En k n]:BU n (.map k):=⟨by simp only[bB];exact q.h⟩
instance(n:Nat)(l:List U)[q:eU n l]:BU n (.iptr l):=⟨by simp only[bB];exact q.h⟩
instance(n:Nat)(l:List U)[q:eU n l]:BU n (.agg l):=⟨by simp only[bB];exact q.h⟩
instance(n:Nat)(l:List U)[q:eU n l]:BU n (.tup l):=⟨by simp only[bB];exact q.h⟩
instance(n:Nat)(f:Fn)(a b:List U)[p:eU n a][q:eU n b]:BU n (.fn f a b):=⟨by simp only[bB];exact⟨p.h,q.h⟩⟩
instance{O:Type}(n:Nat)(t:Bool)(c:O->List U)(l:List O)[q:BF c]:BU n (.isl t (l.map c)):=⟨by simp only[bB];exact uE c (q.h n) l⟩
instance(n:Nat)(t:Bool):BU n (.isl t []):=⟨by simp[bB,mP]⟩
class BS(n:Nat)(l:List (Nat×U)):Prop where
 h:BelS n l
instance(n:Nat):BS n []:=⟨by simp[BelS]⟩
instance(n i:Nat)(u:U)(l:List (Nat×U))[a:BU n u][b:BS n l]:BS n ((i,u)::l):=⟨by simp only[BelS];exact⟨a.h,b.h⟩⟩
class Kz{O:Type}(f:O->U):Prop where
 h:∀n x,bB n (f x)
instance(k:IntKind):Kz (fun x:Int=>U.int k x):=⟨fun n x=>by simp[bB]⟩
class BB(n:Nat)(b:B):Prop where
 h:BelB n b
instance(n:Nat)(l:List U)(e:TypeId)[q:eU n l]:BB n (.row l e):=⟨by simp only[BelB];exact q.h⟩
instance(n:Nat)(l:List U)(e:TypeId)(sz st:Nat)[q:eU n l]:BB n (.vec l e sz st):=⟨by simp only[BelB];exact q.h⟩
class BH(n:Nat)(h:List (Nat×B)):Prop where
 h:GR n h
instance(n:Nat):BH n []:=⟨by simp[GR]⟩
instance(n k:Nat)(b:B)(h:List (Nat×B))[p:BB n b][q:BH n h]:BH n ((k,b)::h):=⟨by simp only[GR];exact⟨p.h,q.h⟩⟩
theorem Gh.toC{n1:Nat}{l l':List (Nat×U)}{h':List (Nat×B)}(ht:HX l l')(hs:Vx.cut n1 X.h=h')(h1:n0<=n1)(h2:n1<=X.nx)[hb:BS n1 l'][hh:BH n1 h']:Gh n0 (fr n l) X (fr n l') ⟨h',n1⟩:=Gh.toS ht (by rw[hs]) h1 h2 hb.h hh.h
theorem uM(u:U)(ht:tm=[u])[q:BU 0 u]:Gh 0 tm X [u] ⟨[],0⟩:=by
 subst ht;refine Gh.to (n1:=0) [] rfl ?_ (zF _) (Nat.zero_le _) (by simp only[aL];exact⟨q.h,trivial⟩) (by simp[GR]);have:∀h:List (Nat×B),Vx.cut 0 h=[]:=by
  intro h;induction h with
  |nil=>rfl|cons x h ih=>obtain⟨k,b⟩:=x;simp only[Vx.cut,ih];rfl
 rw[this]
variable{P:Program}
variable{f:FuncId}
theorem bx{args:List U}{u:U}(h:bE P f args ⟨[],0⟩ (fun u' _=>u'=u/\bB 0 u'))[q:eU 0 args](X:Sg):bE P f args X (fun u' X'=>u'=u/\X'=X):=bE.pure1 h q.h X
theorem LK{args args':List U}{u:U}(h:rG args args')(k9:∀s,bE P f args' s (fun u' X'=>u'=u/\X'=s))(X:Sg):bE P f args X (fun u' X'=>u'=u/\X'=X):=bE.ghost (Gh.wk h) (zF _) (k9 X)
class Stp(A:Prop)(B:outParam Prop):Prop where
 h:B->A
section
variable{Q:Exit->List U->Sg->Prop}{K:List U->Sg->Prop}{tm:List U}{X:Sg}{i j n0:Nat}{E:List U->Sg->Prop}
instance:Stp (ET K Q .normal tm X) (K tm X):=⟨q1⟩
instance:Stp (ET K Q (.exit i) tm X) (Q (.exit i) tm X):=⟨q2⟩
instance:Stp (ET K Q .ret tm X) (Q .ret tm X):=⟨q3⟩
instance:Stp (BO i Q .normal tm X) (Q .normal tm X):=⟨q4⟩
instance:Stp (BO i Q .ret tm X) (Q .ret tm X):=⟨q5⟩
instance:Stp (BO i Q (.exit i) tm X) (Q .normal tm X):=⟨q6⟩
instance:Stp (S4 n0 E Q .normal tm X) (∃tm' X',E tm' X'/\n0<=X'.nx/\Gh n0 tm X tm' X'):=⟨q8⟩
instance:Stp (S4 n0 E Q .ret tm X) (Q .ret tm X):=⟨q9⟩
end
variable{C:PG}
theorem sq{Q:Exit->List U->Sg->Prop}{p q:Code}(h:WPU C n0 p tm X (ET (fun tm X=>WPU C n0 q tm X Q) Q)):WPU C n0 (.seq p q) tm X Q:=WPU.seq h
section
variable{P:Program}{T:Tb}{a9 r:List Oper}{n:Nat}{l:List (Nat×U)}{X:Sg}{K:List U->Sg->Prop}{u:U}
theorem RS.mv{o:Oper}{x:Operand}(hw:cJ a9 (fr n l) o=some true)(ho:o.op=.move x)(hx:c7 n l x=some u){d:Tmp}(he:o.dst=some d)(hk:RU C T a9 r (fr n ((d,u)::l)) X K)(hd:Nat.blt d n=true:=by rfl):RU C T a9 (o::r) (fr n l) X K:=RS.op hw (by rw[ho];exact iQ hx) he hd hk
theorem RS.as{o:Oper}{x:Operand}(hw:cJ a9 (fr n l) o=some true)(ho:o.op=.assign x)(hx:c7 n l x=some u){d:Tmp}(he:o.dst=some d)(hk:RU C T a9 r (fr n ((d,u)::l)) X K)(hd:Nat.blt d n=true:=by rfl):RU C T a9 (o::r) (fr n l) X K:=RS.op hw (by rw[ho];exact ip hx) he hd hk
end
section
variable{P:Program}{T:Tb}{a9 r:List Oper}{o:Oper}{n:Nat}{l:List (Nat×U)}{X:Sg}{aX:List RK}{K:List RK->List U->Sg->Prop}{u:U}
theorem RD.mv{x:Operand}(hw:cJ a9 (fr n l) o=some true)(ho:o.op=.move x)(hx:c7 n l x=some u){d:Tmp}(he:o.dst=some d)(hk:RH P T a9 r (fr n ((d,u)::l)) X ((1,⟨fr n l,o,u,false,false,X,X⟩)::aX) K)(hd:Nat.blt d n=true:=by rfl):RH P T a9 (o::r) (fr n l) X aX K:=RD.look hw (by rw[ho];exact iQ hx) he hd hk
end
class NeN(a b:Nat):Prop where
 h:¬ a=b
theorem gq{A B:Prop}[s:Stp A B](h:B):A:=s.h h
def FF(T:Tb):List Field->Option (List (Nat×Nat))
 |[]=>some []|f::fs=>match cN T f.type,FF T fs with
  |some n,some l=>some ((f.offset,n)::l)|_,_=>none
theorem z4r{T:Tb}:∀{fs:List Field}{pl:List (Nat×Nat)},FF T fs=some pl->J0 T fs=true/\∀i,MB T fs i=nth pl i
 |[],pl,h=>by simp[FF]at h;subst h;exact⟨rfl,fun i=>rfl⟩
 |f::fs,pl,h=>by
  simp only[FF]at h;rcases h1:cN T f.type with _|n;simp[h1]at h;rcases h2:FF T fs with _|l;simp[h1,h2]at h;simp only[h1,h2,zA]at h;subst h;obtain⟨g1,g2⟩:=z4r h2;refine⟨by simp[J0,h1,g1],fun i=>?_⟩;cases i with
  |zero=>simp[MB,nth,h1]|succ i=>exact g2 i
structure BdT(T:Tb)(t:TypeId)(zu:List U)(pl:List (Nat×Nat)):Prop where
 bd:∀{qs:List (Nat×U)}{cs:List U},uT (nth pl) zu qs=some cs->okL cs=true->Fy T t qs=some (.agg cs)
variable{t:TypeId}
variable{b:Nat}
variable{z:Value}
variable{zu:List U}
theorem AD{T:Tb}{fs:Array Field}{a:Nat}{pl:List (Nat×Nat)}(hd:T.und t=some (.struct fs))(hi:T.inf t=some (a,b,z))(hz:pV z.cells.toList=some zu)(hp:FF T fs.toList=some pl):BdT T t zu pl:=⟨fun{qs cs} hf hk=>by
 obtain⟨g1,g2⟩:=z4r hp;have:MB T fs.toList=nth pl:=funext g2;simp only[Fy,hi,hz,hd,g1,zC,this,hf,hk]⟩
section
variable{T:Tb}{X X':Sg}{n:Nat}{l:List (Nat×U)}{u v w:U}
variable{ps:Array (Nat×Operand)}
variable{qs:List (Nat×U)}
variable{cs:List U}
theorem zw{pl:List (Nat×Nat)}(h:BdT T t zu pl)(he:I3 n l ps.toList=some qs)(hf:uT (nth pl) zu qs=some cs)(hk:okL cs=true):bM T X (fr n l) (.build t ps)=some (.agg cs,X):=Oq he (h.bd hf hk)
theorem uA{k:Nat}(hd:T.und t=some (.slice e))(hi:T.inf e=some (sz,b,z))(h:I3 n l ps.toList=some qs)(h1:Nat.ble (k*sz) 16777216=true)(h2:Nat.ble k 16777216=true)(h3:Nat.beq z.cells.toList.length sz=true)(hz:pV z.cells.toList=some zu)(hf:uT (fun i=>some (i*sz,sz)) (vO zu k) qs=some cs)(hk:okL cs=true):bM T X (fr n l) (.buildSlice t k ps)=some (.sl X.nx 0 k k,newU X (.row cs e)):=Tq h (by simp only[Pk,hd,hi,h1,h2,h3,zC,hz,hf,hk])
theorem AQ.bs{k:Nat}{rs:List (List U)}(hd:T.und t=some (.slice e))(hi:T.inf e=some (sz,b,z))(h:I3 n l ps.toList=some qs)(h1:Nat.ble (k*sz) 16777216=true)(h2:Nat.ble k 16777216=true)(h3:Nat.beq z.cells.toList.length sz=true)(hz:pV z.cells.toList=some zu)(hf:uT (fun i=>some (i*sz,sz)) (vO zu k) qs=some cs)(hk:okL cs=true)(hl:Nat.ble (k*sz) cs.length=true)(hr:cD sz k cs=rs)[hb:eU 0 cs]:AQ P T (fr n l) (.buildSlice t k ps) (.isl false rs):=
 .inr ⟨k,sz,cs,e,fun X=>uA hd hi h h1 h2 h3 hz hf hk,zY hl,hb.h,by rw[hr]⟩
variable{a:Int}
variable{k':IntKind}
theorem z9l(k:IntKind){b:Int}(h:¬ b<0):kL .shr k a k' b=some (.int k (a.fdiv (2^(min b.toNat k.bits)))):=by simp[kL,h]
theorem Ah(k:IntKind){b:Int}(h:¬ b<0):kL .shl k a k' b=some (.int k (k.wrap (a*2^(min b.toNat k.bits)))):=by simp[kL,h]
theorem zt(c:O->List U)(z:O){x y:Operand}{k:IntKind}{by_:Nat}{zv:Value}(hx:c7 n l x=some (.int k a))(hy:c7 n l y=some (.int k' a))(hd:T.und t=some (.slice e))(hi:T.inf e=some (sz,by_,zv))(hz:pV zv.cells.toList=some zu)(hk:okL zu=true)(pq:rN zu=c z)(hl:Nat.beq zv.cells.toList.length sz=true)(hr:0<=a/\by_*a.toNat<=281474976710656/\a<=281474976710656):bM T X (fr n l) (.makeSlice t x y)=some (.sl X.nx 0 a.toNat a.toNat,newU X (.row ((List.replicate a.toNat z).map c).flatten e)):=by
 have G_:vO (c z) a.toNat=((List.replicate a.toNat z).map c).flatten:=by simp[vO]
 refine Tp hx hy ?_;simp only[Lc,hd,hi,hz,hk,hl,zC,hr.1,hr.2.1,hr.2.2,Int.le_refl,and_self,if_true,pq,G_]
variable{m:Nat}
theorem EW{q:Nat}{k:IntKind}(hd:T.und t=some (.slice e))(hs:cN T e=some sz)(hv:bU X K 0=true)(hx:mK xs 0 m i=some x):BN T X t (.sl K 0 m q) (.int k i)=some (.ptr K 0 (0*sz+i.toNat*sz)):=by
 obtain⟨h1,h2,_⟩:=YI hx;simp only[BN,hd,hs,hv,zC,h1,h2,and_self,if_true,Nat.zero_mul]
theorem XZ(c:O->List U){e':TypeId}{d:TypeDesc}{o:Operand}(f:O->U)(hd:T.und t=some d)(ha:rP d=false)(hc:∀x,c x=[f x])(ho:c7 n l o=some (.ptr K 0 (0*1+i.toNat*1)))(hv:gt X.h K=some (.row (xs.map c).flatten e'))(hx:mK xs 0 m i=some x):bM T X (fr n l) (.load t o)=some (f x,X):=by
 refine NI rfl ?_;have hb:Nat.beq 0 0=true:=rfl;have hg:=aw (c:=c) (sz:=1) (fun x=>by rw[hc];rfl) (YI hx).2.2;rw[hc,Nat.add_mul]at hg;simp only[nC,fF ho,cellsOf,hv,hb,zC,GY,hd,ha,zD,z0j hg]
theorem Et(c:O->List U){e':TypeId}{y:O}{o z:Operand}{h':List (Nat×B)}(hs:cN T t=some sz)(hc:∀x,(c x).length=sz)(ho:c7 n l o=some (.ptr K 0 (0*sz+i.toNat*sz)))(hz:c7 n l z=some v)(uI:xT v=some cs)(hk:okL cs=true)(hy:cs=c y)(hv:gt X.h K=some (.row (xs.map c).flatten e'))(hx:mK xs 0 m i=some x)(DB:ug X.h K (.row ((xs.set i.toNat y).map c).flatten e')=h'):bM T X (fr n l) (.store t o z)=some (.junk,⟨h',X.nx⟩):=by
 subst hy;subst DB;have hb:Nat.beq 0 0=true:=rfl;have qX:Nat.beq (c y).length sz=true:=by simp[hc]
 have hj:=(zG.1 (YI hx).2.2).1;have hp:=fh hc hj y;rw[Nat.add_mul,Nat.zero_add]at hp;exact HY rfl rfl (by simp only[nO,fF ho,fF hz,XS,hs,uI,qX,hk,zC,cellsOf,hv,hb,GU,hp,M2])
theorem Ad{q:Nat}(hd:T.und t=some (.slice e))(h:bU X K 0=true):lenU T X t (.sl K off m q)=some (.int .i64 m):=by
 simp only[lenU,hd,h,zC]
theorem Ez{c:O->List U}(hc:∀x,(c x).length=sz)(h:m=xs.length)(K:Nat)(e:TypeId):fz K (.row (xs.map c).flatten e) sz (.sl K 0 m m)=.isl false (xs.map c):=by
 subst h;have hl:0+xs.length*sz<=(xs.map c).flatten.length:=by rw[MH hc];omega
 have hk:Nat.beq K K=true:=by simp
 simp only[fz,hk,zC,hl,if_true,List.drop_zero,qoo hc]
end
theorem bE.own1(c:O->List U){ys:List O}{a7:List U}[hc:BF c][ha:eU 0 a7]{k:Nat}
  (h:bE P f a7 ⟨[],0⟩ (fun u X'=>∃t',u=.vl k t' 0 ys.length/\X'=⟨[(k,.vec (ys.map c).flatten e sz t')],k+1⟩))
  (X:Sg) (K:Nat) (hK:X.nx+k=K):
  bE P f a7 X (fun u X'=>∃t',u=.vl K t' 0 ys.length/\X'=⟨(K,.vec (ys.map c).flatten e sz t')::X.h,K+1⟩):=by
 subst hK;have A3:∀l:List O,aL 0 (l.map c).flatten:=fun l=>BP 0 (hc.h 0) l;have h1:=bE.frame [] h X (by simp) (by simp) ha.h (by intro k b hb;simp[gt]at hb);rw[MF _ _ ha.h]at h1;refine bE.post h1 ?_;rintro u X1 ⟨u0,R1,⟨t',rfl,rfl⟩,_,rfl,rfl⟩;refine⟨.vl (X.nx+k) t' 0 ys.length,⟨(X.nx+k,.vec (ys.map c).flatten e sz t')::X.h,X.nx+k+1⟩,by simp;omega,?_,t',rfl,rfl⟩;have hs:Xu [] X ⟨[(k,.vec (ys.map c).flatten e sz t')],k+1⟩=⟨(X.nx+k,.vec (ys.map c).flatten e sz t')::IV [] X.h,X.nx+k+1⟩:=by simp[Xu,AK,nm,rB,MF _ _ (A3 ys)];omega
 rw[hs];have:=Gh.same (n0:=X.nx) (tm:=[rU (nm [] X.nx) (.vl k t' 0 ys.length)]) (X:=⟨(X.nx+k,.vec (ys.map c).flatten e sz t')::IV [] X.h,X.nx+k+1⟩) ((X.nx+k,.vec (ys.map c).flatten e sz t')::X.h) (fun j=>by rw[dY,dY,Ox];by_cases hk:X.nx+k=j<;>simp[hk]);exact this
theorem Gh.rowW{q q':List U}(hg:gt X.h K=some (.row q e))(hk:okL q'=true)(h:rG q q'):Gh n0 tm X tm ⟨ug X.h K (.row q' e),X.nx⟩:=Gh.row hg hk fun x vs _ _ he=>⟨h.rel he.1,by rw[h.len];exact he.2⟩
def bothL{O β:Type}:List β->(Bool->Option (List O))->Option (List O)
 |[],F=>match F true,F false with
  |some [],some []=>some []|_,_=>none
 |_::_,F=>F false
theorem z02{β:Type}{l:List β}{F:Bool->Option (List O)}{r:List O}(h:bothL l F=some r)(z:Bool)(hz:z=true->l=[]):F z=some r:=by
 cases l with|nil=>simp only[bothL]at h;split at h;rename_i h1 h2;cases z;rw[h2];exact h;rw[h1];exact h;cases h|cons a l=>rcases z with _|_;exact h;have:=hz rfl;cases this
end Go.Vx
namespace Go.Vx
open Go Go.Rx
structure k7(K V:Type) where
 es:List (K×V×Nat)
 cl:Nat
def AR{K V:Type}(eq:K->K->Bool)(k:K):List (K×V×Nat)->Nat->Option (Nat×V×Nat)
 |[],_=>none|e::es,i=>cond (eq k e.1) (some (i,e.2.1,e.2.2)) (AR eq k es (i+1))
def AO{K V:Type}(v:V):List (K×V×Nat)->Nat->List (K×V×Nat)
 |[],_=>[]|e::es,0=>(e.1,v,e.2.2)::es
 |e::es,i+1=>e::AO v es i
def GM{K V:Type}:k7 K V:=⟨[],0⟩
def I1{K V:Type}(eq:K->K->Bool)(m:k7 K V)(k:K):Option V:=(AR eq k m.es 0).map fun x=>x.2.1
def D6{K V:Type}(eq:K->K->Bool)(m:k7 K V)(k:K)(v:V):k7 K V:=match AR eq k m.es 0 with
 |none=>⟨m.es++[(k,v,m.cl)],m.cl+1⟩|some (i,_)=>⟨AO v m.es i,m.cl⟩
section
variable{K V:Type}(kU:K->U)(vU:V->U)
def mE(e:K×V×Nat):ME:=⟨kU e.1,vU e.2.1,e.2.2⟩
theorem z4a(v:V):∀(es:List (K×V×Nat))(i:Nat),I0 (es.map (mE kU vU)) i (fun e=>{ e with val:=vU v })=(AO v es i).map (mE kU vU)
 |[],i=>by cases i<;>simp[I0,AO]
 |e::es,0=>by simp[I0,AO,mE]
 |e::es,i+1=>by simp[I0,AO,z4a v es i]
structure VY(T:Tb)(kt:TypeId)(eq:K->K->Bool)(kV:K->Value):Prop where
 v:∀k,toV (kU k)=some (kV k)
 cmp:∀a b,eqv T 50 kt (kV a) (kV b)=some (eq a b)
 key:∀k,oL T 50 kt (kV k)=true
 pl:∀k,plain (kV k)=true
 same:∀a b,eq a b=true->AI 50 (kV b) (kV a)=true
variable{kU vU}{T:Tb}{kt:TypeId}{eq:K->K->Bool}{kV:K->Value}(hk:VY kU T kt eq kV)
include hk
theorem fi(k:K):∀(es:List (K×V×Nat))(i:Nat),BL T kt (kV k) (es.map (mE kU vU)) i=some ((AR eq k es i).map fun x=>(x.1,vU x.2.1))
 |[],i=>rfl|e::es,i=>by simp only[zQ,BL,mE,hk.v,hk.cmp,AR];rcases h:eq k e.1 with _|_;exact fi k es (i+1);simp
omit hk in
theorem z2x(k:K):∀{es:List (K×V×Nat)}{i j:Nat}{v:V}{b:Nat},AR eq k es i=some (j,v,b)->i<=j/\∃k',es[j-i]? = some (k',v,b)/\eq k k'=true
 |[],i,j,v,b,h=>by simp[AR]at h
 |e::es,i,j,v,b,h=>by
  simp only[AR]at h;cases he:eq k e.1 with
  |true=>rw[he]at h;simp only[zC,zA,zB]at h;obtain⟨rfl,rfl,rfl⟩:=h;exact⟨zF _,e.1,by simp,he⟩
  |false=>rw[he]at h;simp only[zD]at h;obtain⟨h1,k',h2,h3⟩:=z2x k h;refine⟨by omega,k',?_,h3⟩;rw[show j-i=(j-(i+1))+1 by omega];simpa using h2
variable{X:Sg}{n:Nat}{l:List (Nat×U)}{r:Nat}{m:k7 K V}{t et:TypeId}(hd:T.und t=some (.map kt et))(hg:gt X.h r=some (.map (m.es.map (mE kU vU)) m.cl))
include hd hg
theorem z82{x k0:Operand}{k:K}{a b:Nat}{z:Value}{zv:V}(hx:c7 n l x=some (.map r))(Q1:c7 n l k0=some (kU k))(hi:T.inf et=some (a,b,z))(hz:iI z=some (vU zv)):bM T X (fr n l) (.lookup t x k0 true)=some (.tup [vU ((I1 eq m k).getD zv),.bool (I1 eq m k).isSome],X):=by
 refine NI rfl ?_;simp only[nC,hd,fF hx,fF Q1,hk.v,hk.key,zC,hg,fi hk,I1];rcases AR eq k m.es 0 with _|q;simp only[Option.map_none,hi,hz,Option.getD_none,Option.isSome];simp only[zM,Option.getD_some,Option.isSome]
omit hd hg in
theorem Af{k:K}{j b:Nat}{v:V}(hf:AR eq k m.es 0=some (j,v,b)):∃k',nth (m.es.map (mE kU vU)) j=some ⟨kU k',vU v,b⟩/\AI 50 (kV k') (kV k)=true:=by
 obtain⟨_,k',h1,h2⟩:=z2x k hf;refine⟨k',?_,hk.same k k' h2⟩;rw[iZ,List.getElem?_map];rw[Nat.sub_zero]at h1;rw[h1];rfl
theorem ZU{x k0 v0:Operand}{k:K}{v:V}(hx:c7 n l x=some (.map r))(Q1:c7 n l k0=some (kU k))(hv0:c7 n l v0=some (vU v)){X':Sg}(DB:OJ X r ((D6 eq m k v).es.map (mE kU vU)) (D6 eq m k v).cl=X'):bM T X (fr n l) (.mapUpdate t x k0 v0)=some (.junk,X'):=by
 subst DB;refine HY rfl rfl ?_;simp only[nO,fF hx,fF Q1,fF hv0,No,hd,hk.v,hk.key,hk.pl,zC,hg,fi hk,D6];rcases hf:AR eq k m.es 0 with _|q;simp only[Option.map_none,List.map_append,zQ,List.map_nil,mE];obtain⟨j,v',b⟩:=q;obtain⟨k',h1,h2⟩:=Af (vU:=vU) hk hf;simp only[zM,h1,hk.v,h2,zC,z4a]
end
theorem zbg{T:Tb}{X:Sg}{n:Nat}{l:List (Nat×U)}{t:TypeId}:bM T X (fr n l) (.makeMap t none)=some (.map X.nx,newU X (.map [] 0)):=HY rfl rfl rfl
theorem Eh{K V:Type}{kU:K->U}{vU:V->U}{n:Nat}(hk:∀k,bB n (kU k))(hv:∀v,bB n (vU v))(es:List (K×V×Nat)):∀e∈es.map (mE kU vU),bB n e.key/\bB n e.val:=by
 intro e he;obtain⟨x,_,rfl⟩:=List.mem_map.1 he;exact⟨hk _,hv _⟩
theorem z3s{T:Tb}{t:TypeId}{k:IntKind}(hd:T.und t=some (.int k)):VY (fun x=>.int k x) T t (fun a b=>a==b) (fun x=>.int k x) where
 v:=fun _=>rfl
 cmp:=fun a b=>by simp[eqv,hd]
 key:=fun _=>by simp[oL,hd]
 pl:=fun _=>rfl
 same:=fun a b h=>by simp at h;simp[AI,h]
instance{K V:Type}(n:Nat)(kU:K->U)(vU:V->U)(es:List (K×V×Nat))(cl:Nat)[p:Kz kU][q:Kz vU]:BB n (.map (es.map (mE kU vU)) cl):=⟨by simp only[BelB];exact Eh (p.h n) (q.h n) es⟩
end Go.Vx
