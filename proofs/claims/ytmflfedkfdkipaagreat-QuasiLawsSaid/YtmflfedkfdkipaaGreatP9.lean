import Derived.DataReads
import Derived.ChangeArms
import Derived.OpenShut
import Derived.ChangeSame
import Derived.Test.YtmflfedkfdkipaaGreatP8
set_option linter.all false
namespace Go.Vx
open Go Go.Rx
def qu4{v11 v09:Type}{f:v11->I v09}:∀{l:Z v11}{r:Z v09},l.mapM f=some r->r.length=l.length/\∀(i:Nat)(a:v11),l[i]? = some a->∃b,r[i]? = some b/\f a=some b
 |[],r,h=>by simp at h;subst h;simp
 |a::l,r,h=>by
  simp only[List.mapM_cons,bind,Option.bind]at h;rcases h1:f a with _|b;simp[h1]at h;simp only[h1]at h;rcases h2:l.mapM f with _|r';simp[h2]at h;simp[h2,pure]at h;subst h;obtain⟨g1,g2⟩:=qu4 h2;refine⟨by simp[g1],fun i x hx=>?_⟩;cases i with
  |zero=>simp at hx;subst hx;exact⟨b,rfl,h1⟩|succ i=>simp at hx;simpa using g2 i x hx
def Zn(W:Tz):∀(l:Z U)(vs:Z A),mJ W l vs↔∀(i:Nat)(u:U),l[i]? = some u->∃v,vs[i]? = some v/\Rep W u v
 |[],vs=>by simp[mJ]
 |u::us,[]=>by simp only[mJ,false_iff];intro h;obtain⟨v,hv,_⟩:=h 0 u rfl;simp at hv
 |u::us,v::vs=>by
  simp only[mJ,Zn W us vs];constructor;rintro⟨h1,h2⟩ i w hi;cases i with
  |zero=>simp at hi;subst hi;exact⟨v,rfl,h1⟩|succ i=>simp at hi;simpa using h2 i w hi
  intro h;refine⟨?_,fun i w hi=>by simpa using h (i+1) w (by simpa using hi)⟩;obtain⟨v',h1,h2⟩:=h 0 u rfl;simp at h1;subst h1;exact h2
def z00{W:Tz}{sz:Nat}:∀{l:Z (Z U)}{vs:Z A},(∀(i:Nat)(c:Z U),l[i]? = some c->c.length=sz/\okL c=true/\mJ W c (vs.drop (i*sz)))->L8 W sz l vs
 |[],vs,h=>by simp[L8]
 |d::l,vs,h=>by simp only[L8];have h0:=h 0 d rfl;refine⟨h0.1,h0.2.1,by simpa using h0.2.2,z00 fun i c hc=>?_⟩;have:=h (i+1) c (by simpa using hc);rw[List.drop_drop];rw[Nat.succ_mul,Nat.add_comm]at this;exact this
def Ls(P:Uz):Nat->Z Field->Nat->BQ
 |o,[],n=>Nat.beq o n|o,f::fs,n=>cond (Nat.beq f.offset o) (Ls P (o+P.cellsOf f.type) fs n) false
def VO(P:Uz)(TS:Z O)(t:O):BQ:=match P.underlying t with
 |some .bool=>true|some (.int _)=>true
 |some .string=>true|some (.slice e)=>cond (TS.any (Nat.beq e)) (Nat.blt 0 (P.cellsOf e)) false
 |some (.struct fs)=>cond (Ls P 0 fs.toList (P.cellsOf t)) (fs.toList.all fun f=>TS.any (Nat.beq f.type)) false|some (.array n e)=>cond (TS.any (Nat.beq e)) (Nat.beq (P.cellsOf t) (n*P.cellsOf e)) false
 |_=>false
def closedTS(P:Uz)(TS:Z O):BQ:=TS.all (VO P TS)
def ai{TS:Z O}{e:O}(h:TS.any (Nat.beq e)=true):e∈TS:=by
 obtain⟨x,h1,h2⟩:=List.any_eq_true.1 h;have:e=x:=by simpa[beq_eq]using h2
 rw[this];exact h1
def qm3{W:Tz}{P:Uz}{fuel:Nat}{cs:Z A}:∀(fs:Z Field)(o n:Nat),Ls P o fs n=true->n<=cs.length->
  (∀f∈fs,∃us,mJ W us ((cs.drop f.offset).take (P.cellsOf f.type))/\us.length=((cs.drop f.offset).take (P.cellsOf f.type)).length/\okL us=true/\OfTy P fuel f.type us)->
  ∃us,mJ W us (cs.drop o)/\us.length=n-o/\okL us=true/\o<=n/\∀f∈fs,o<=f.offset/\OfTy P fuel f.type ((us.drop (f.offset-o)).take (P.cellsOf f.type))
 |[],o,n,hc,hl,h=>by
  have:o=n:=by simpa[Ls,beq_eq]using hc
  subst this;exact⟨[],by simp[mJ],by simp,rfl,zF _,by simp⟩
 |f::fs,o,n,hc,hl,h=>by
  simp only[Ls]at hc;obtain⟨h1,h2⟩:=K1 hc;have ho:f.offset=o:=by simpa[beq_eq]using h1
  obtain⟨us,g1,g2,g3,g4,g5⟩:=qm3 fs _ n h2 hl fun x hx=>h x (by simp[hx]);obtain⟨u0,k1,k2,k3,k4⟩:=h f (by simp);rw[ho]at k1 k2;have k5:u0.length=P.cellsOf f.type:=by rw[k2];simp;omega
  refine⟨u0++us,?_,by simp[k5,g2];omega,MJ k3 g3,by omega,fun x hx=>?_⟩;rw[Zn]at k1 g1 ⊢;intro i u hu;rw[List.getElem?_append]at hu;split at hu;rename_i aH;obtain⟨v,q1,q2⟩:=k1 i u hu;rw[List.getElem?_take]at q1;rw[k5]at aH;simp only[aH,if_true]at q1;exact⟨v,q1,q2⟩;rename_i aH;obtain⟨v,q1,q2⟩:=g1 _ u hu;rw[List.getElem?_drop]at q1 ⊢;exact⟨v,by rw[k5]at q1 aH;rw[show o+i=o+P.cellsOf f.type+(i-P.cellsOf f.type) by omega];exact q1,q2⟩;rcases zI.1 hx with rfl |hx;refine⟨by omega,?_⟩;rw[ho,Nat.sub_self,List.drop_zero,<-k5,List.take_left' rfl];exact k4;obtain⟨q1,q2⟩:=g5 x hx;refine⟨by omega,?_⟩;rw[show x.offset-o=u0.length+(x.offset-(o+P.cellsOf f.type)) by omega,List.drop_append,List.drop_of_length_le (by omega),List.nil_append,Nat.add_sub_cancel_left];exact q2
def qor{W:Tz}{P:Uz}{fuel:Nat}{cs:Z A}{e:O}{sz:Nat}:∀(n:Nat),n*sz<=cs.length->
  (∀i,i<n->∃us,mJ W us ((cs.drop (i*sz)).take sz)/\us.length=((cs.drop (i*sz)).take sz).length/\okL us=true/\OfTy P fuel e us)->
  ∃us,mJ W us cs/\us.length=n*sz/\okL us=true/\∀i,i<n->OfTy P fuel e ((us.drop (i*sz)).take sz)
 |0,hl,h=>⟨[],by simp[mJ],by simp,rfl,by simp⟩|n+1,hl,h=>by
  rw[Nat.succ_mul]at hl;obtain⟨us,g1,g2,g3,g4⟩:=qor n (by omega) fun i hi=>h i (by omega);obtain⟨u0,k1,k2,k3,k4⟩:=h n (by omega);have k5:u0.length=sz:=by rw[k2];simp;omega
  refine⟨us++u0,?_,by rw[zU,g2,k5,Nat.succ_mul],MJ g3 k3,fun i hi=>?_⟩;rw[Zn]at k1 g1 ⊢;intro i u hu;rw[List.getElem?_append]at hu;split at hu;exact g1 i u hu;rename_i aH;obtain⟨v,q1,q2⟩:=k1 _ u hu;rw[List.getElem?_take]at q1;split at q1;rw[List.getElem?_drop]at q1;exact⟨v,by rw[g2]at q1 aH;rw[show i=n*sz+(i-n*sz) by omega];exact q1,q2⟩;cases q1;by_cases gG:i<n;have:=g4 i gG;have pG:i*sz+sz<=us.length:=by rw[g2,<-Nat.succ_mul];exact Nat.mul_le_mul_right _ gG
  rw[List.drop_append_of_le_length (by omega),List.take_append_of_le_length (by simp;omega)];exact this;have:i=n:=by omega
  subst this;rw[<-g2,List.drop_left' rfl,<-k5,List.take_length];exact k4
section
variable{H:Type}{enc:O×A->H}{P:Uz}{W:Tz}{TS:Z O}(Ig:closedTS P TS=true)
include Ig
omit Ig in
def dt{a:Addr}{n:Nat}{cs:Z A}(hn:0<n)(h:W.cells? 0 a n=some cs):∃c e fr,a.spot=none/\W.heap[a.block]? = some (.cells c e fr)/\cs.length=n/\∀(k:Nat)(v:A),cs[k]? = some v->c.toList[a.off+k]? = some v:=by
 unfold World.cells? at h;simp only[Nat.zero_le,if_true]at h;obtain⟨g1,g2⟩:=qu4 h;obtain⟨v0,k1,k2⟩:=g2 0 0 (by simp[hn]);have vN:a.spot=none:=by have:=World.cell?_spot k2;simpa[Addr.add]using this
 have hadd:∀k,a.add k=⟨a.block,a.off+k,none⟩:=fun k=>by obtain⟨b,o,sp⟩:=a;simp only at vN;subst vN;exact uH b o k
 rw[hadd]at k2;unfold World.cell? at k2;rcases hw:W.heap[a.block]? with _|o;simp[hw]at k2;cases o with
 |cells c e fr=>
  refine⟨c,e,fr,vN,rfl,by simpa using g1,fun k v hk=>?_⟩;have aH:k<n:=by have:=(zG.1 hk).1;rw[g1]at this;simpa using this
  obtain⟨v',q1,q2⟩:=g2 k k (by simp[aH]);rw[hk]at q1;cases q1;rw[hadd]at q2;simp only[World.cell?,hw]at q2;simpa using q2
 |_=>simp[hw]at k2
def Zl:∀(fuel:Nat)(t:O),t∈TS->∀(cs:Z A)(x:DataW H×Z MemPlace),DataW.trod enc P W 0 (fun _=>true) true fuel t cs=some x->∃us,mJ W us cs/\us.length=cs.length/\okL us=true/\OfTy P fuel t us
 |0,t,ht,cs,x,h=>by simp[DataW.trod]at h
 |fuel+1,t,ht,cs,x,h=>by
  have qA:=List.all_eq_true.1 Ig t ht;unfold VO at qA;rcases hd:P.underlying t with _|d;simp[hd]at qA;cases d with
  |bool=>obtain⟨b,rfl,_⟩:=DataW.trod_bool hd h;exact⟨[.bool b],by simp[mJ,Rep],rfl,rfl,by simp[OfTy,hd]⟩
  |int k=>obtain⟨n,rfl,_,ye⟩:=DataW.trod_int hd h;exact⟨[.int k n],by simp[mJ,Rep],rfl,rfl,by simp[OfTy,hd,ye]⟩
  |string=>obtain⟨s,rfl,_,eA⟩:=DataW.trod_string hd h;refine⟨[.str s.data.toList],by simp[mJ,Rep],rfl,rfl,?_⟩;simp only[OfTy,hd];exact⟨_,rfl,by simpa using eA⟩
  |slice e=>
   simp only[hd]at qA;obtain⟨D_,eX⟩:=K1 qA;have he:=ai D_;have eA:0<P.cellsOf e:=G1 eX;rcases DataW.trod_slice hd h with⟨rfl,_⟩|⟨a,len,cap,BE,rest,n,yw,rfl,_,_,yr,hcm,aN,hel,vN,_⟩;refine⟨[.isl false []],by simp[mJ,Rep],rfl,rfl,?_⟩;simp only[OfTy,hd];exact⟨[],rfl,by simp,by simp⟩;have hn:n=fuel:=by omega
   subst hn;have gH:cap<bP:=by unfold bP;unfold maxLen at hcm;omega
   have each:∀i,i<len->∃us,us.length=P.cellsOf e/\okL us=true/\OfTy P n e us/\∃c ty fr,a.spot=none/\W.heap[a.block]? = some (.cells c ty fr)/\mJ W us (c.toList.drop (a.off+i*P.cellsOf e)):=by
    intro i hi;have h1:=hel i hi;have h2:BE[i]? = some BE[i]:=by simp[aN,hi]
    rw[h2]at h1;rcases hc:W.cells? 0 (a.add (i*P.cellsOf e)) (P.cellsOf e)with _|ci;simp[hc]at h1;simp only[hc,Option.bind_some]at h1;obtain⟨us,r1,r2,r3,r4⟩:=Zl n e he ci _ h1;obtain⟨c,ty,fr,k1,k2,k3,k4⟩:=dt eA hc;have ZG:a.spot=none:=by
     have h3:=hel 0 (by omega);have h4:BE[0]? = some (BE[0]'(by omega)):=by simp[aN,show 0<len by omega]
     rw[h4]at h3;rcases w4:W.cells? 0 (a.add (0*P.cellsOf e)) (P.cellsOf e)with _|c0;rw[w4]at h3;cases h3;obtain⟨_,_,_,q1,_⟩:=dt eA w4;simpa[Addr.add]using q1
    have hadd:a.add (i*P.cellsOf e)=⟨a.block,a.off+i*P.cellsOf e,none⟩:=by obtain⟨b,o,sp⟩:=a;simp only at ZG;subst ZG;exact uH b o _
    rw[hadd]at k2 k4;refine⟨us,by rw[r2,k3],r3,r4,c,ty,fr,ZG,k2,?_⟩;rw[Zn]at r1 ⊢;intro k u hu;obtain⟨v,q1,q2⟩:=r1 k u hu;exact⟨v,by rw[List.getElem?_drop];exact k4 k v q1,q2⟩
   have all:∀m,m<=len->∃l:Z (Z U),l.length=m/\∀(i:Nat)(us:Z U),l[i]? = some us->us.length=P.cellsOf e/\okL us=true/\OfTy P n e us/\∃c ty fr,a.spot=none/\W.heap[a.block]? = some (.cells c ty fr)/\mJ W us (c.toList.drop (a.off+i*P.cellsOf e)):=by
    intro m;induction m with
    |zero=>intro _;exact⟨[],rfl,by simp⟩|succ m ih=>
     intro hm;obtain⟨l,l1,l2⟩:=ih (by omega);obtain⟨us,z_⟩:=each m (by omega);refine⟨l++[us],by simp[l1],fun i vs ZD=>?_⟩;rw[List.getElem?_append]at ZD;split at ZD;exact l2 i vs ZD;rename_i AY;have:i=m:=by have:=(zG.1 ZD).1;simp at this;omega
     subst this;rw[l1,Nat.sub_self]at ZD;simp at ZD;subst ZD;exact z_
   obtain⟨l,l1,l2⟩:=all len (zF _);refine⟨[.isl false l],?_,rfl,rfl,?_⟩;simp only[mJ,and_true,Rep,true_and];by_cases AW:l=[];subst AW;simp at l1;subst l1;obtain⟨b,o,sp⟩:=a;rcases sp with _|p;exact .inr ⟨b,o,cap,rfl,gH,Nat.zero_le _,.inl rfl⟩;rcases Nat.eq_zero_or_pos cap with h0 |hp;subst h0;exact .inl ⟨rfl,.inr ⟨b,o,p,rfl⟩⟩;exfalso;obtain⟨s1,s2⟩:=vN rfl;have h3:=s2 0 (by omega);have h4:rest[0]? = some (rest[0]'(by omega)):=by simp[s1,hp]
   rw[h4]at h3;rcases w4:W.cells? 0 (Addr.add ⟨b,o,some p⟩ ((0+0)*P.cellsOf e)) (P.cellsOf e)with _|c0;rw[w4]at h3;cases h3;obtain⟨_,_,_,q1,_⟩:=dt eA w4;simp[Addr.add]at q1;obtain⟨Dd,y_⟩:∃Dd,l[0]? = some Dd:=by cases l with
    |nil=>exact absurd rfl AW|cons a l=>exact⟨a,rfl⟩
   obtain⟨_,_,_,c,ty,fr,S6,hw,_⟩:=l2 0 Dd y_;refine .inr ⟨a.block,a.off,cap,by obtain⟨b,o,sp⟩:=a;simp only at S6;subst S6;rw[l1],gH,by omega,.inr ⟨c,ty,fr,P.cellsOf e,hw,z00 fun i us hi=>?_⟩⟩;obtain⟨q1,q2,_,c',ty',fr',_,mX,q3⟩:=l2 i us hi;rw[hw]at mX;cases mX;exact⟨q1,q2,by rw[List.drop_drop];exact q3⟩;simp only[OfTy,hd];refine⟨l,rfl,by omega,fun us z_=>?_⟩;obtain⟨i,hi⟩:=List.mem_iff_getElem?.1 z_;exact(l2 i us hi).2.2.1
  |struct fs=>
   simp only[hd]at qA;obtain⟨yz,cC⟩:=K1 qA;obtain⟨xs,m,yw,_,hl,NE,hf⟩:=DataW.trod_struct hd h;have hm:m=fuel:=by omega
   subst hm;obtain⟨us,g1,g2,g3,_,g5⟩:=qm3 (W:=W) (P:=P) (fuel:=m) (cs:=cs) fs.toList 0 (P.cellsOf t) yz (by omega) fun f NY=>by
    obtain⟨i,hi⟩:=List.mem_iff_getElem?.1 NY;have h1:=hf i f (by simpa using hi);have h2:i<xs.length:=by rw[NE];have:=(zG.1 hi).1;simpa using this
    rw[show xs[i]? = some xs[i] by simp[h2]]at h1;exact Zl m f.type (ai (List.all_eq_true.1 cC f NY)) _ _ h1
   refine⟨us,by simpa using g1,by omega,g3,?_⟩;simp only[OfTy,hd];exact⟨by omega,fun f NY=>by simpa using(g5 f NY).2⟩
  |array n e=>
   simp only[hd]at qA;obtain⟨D_,fY⟩:=K1 qA;have he:=ai D_;obtain⟨xs,m,yw,_,hl,NE,hf⟩:=DataW.trod_array hd h;have hm:m=fuel:=by omega
   subst hm;have ld:P.cellsOf t=n*P.cellsOf e:=by simpa[beq_eq]using fY
   obtain⟨us,g1,g2,g3,g4⟩:=qor (W:=W) (P:=P) (fuel:=m) (cs:=cs) (e:=e) (sz:=P.cellsOf e) n (by omega) fun i hi=>by have h1:=hf i hi;rw[show xs[i]? = some xs[i] by simp[NE,hi]]at h1;exact Zl m e he _ _ h1
   refine⟨us,g1,by omega,g3,?_⟩;simp only[OfTy,hd];exact⟨by omega,g4⟩
  |_=>simp[hd]at qA
def OfArg(P:Uz)(t:O)(u:U):Prop:=∃fuel us,OfTy P fuel t us/\match P.underlying t with
 |some (.struct _)=>u=.agg us|some (.array _ _)=>u=.agg us
 |_=>us=[u]
def OfArgs(P:Uz):Z O->Z U->Prop
 |[],us=>us=[]|t::ts,us=>∃u De,us=u::De/\OfArg P t u/\OfArgs P ts De
def z6h{t:O}(ht:t∈TS){v:A}{d:DataW H}{ps:Z MemPlace}{r:Reach}{b0:Nat}(dW:Value.okWide P W r b0 t v)(h:DataW.Trod enc P W 0 (fun _=>true) true t v d ps):∃u,Rep W u v/\OfArg P t u:=by
 obtain⟨fuel,hf⟩:=h;obtain⟨us,h1,h2,h3,h4⟩:=Zl Ig fuel t ht _ _ hf;have qA:=List.all_eq_true.1 Ig t ht;unfold VO at qA;have one:v.cells.toList=[v]->(match P.underlying t with
   |some (.struct _)=>False|some (.array _ _)=>False
   |_=>True)->∃u,Rep W u v/\OfArg P t u:=fun hc hm=>by
  rw[hc]at h1 h2
  match us,h2 with
  |[u],_=>simp only[mJ,and_true]at h1;refine⟨u,h1,fuel,[u],h4,?_⟩;split<;>simp_all
 have agg:(∃cs,v=.agg cs)->(match P.underlying t with
   |some (.struct _)=>True|some (.array _ _)=>True
   |_=>False)->∃u,Rep W u v/\OfArg P t u:=fun⟨cs,hc⟩ hm=>by
  subst hc;refine⟨.agg us,?_,fuel,us,h4,?_⟩;simp only[Rep];exact⟨cs.toList,rfl,h1,h2,h3⟩;split<;>simp_all
 unfold Value.okWide at dW;rcases hd:P.underlying t with _|dd;simp[hd]at qA;cases dd with
 |struct fs=>simp only[hd]at dW;obtain⟨cs,hc,_⟩:=dW;exact agg ⟨cs,hc⟩ (by simp[hd])
 |array n e=>simp only[hd]at dW;obtain⟨cs,hc,_⟩:=dW;exact agg ⟨cs,hc⟩ (by simp[hd])
 |bool=>refine one ?_ (by simp[hd]);simp only[hd,Cell.okWide]at dW;cases v<;>first |rfl |(simp[Cell.ok,hd]at dW)
 |int k=>refine one ?_ (by simp[hd]);simp only[hd,Cell.okWide]at dW;cases v<;>first |rfl |(simp[Cell.ok,hd]at dW)
 |string=>refine one ?_ (by simp[hd]);simp only[hd,Cell.okWide]at dW;cases v<;>first |rfl |(simp[Cell.ok,hd]at dW)
 |slice e=>refine one ?_ (by simp[hd]);simp only[hd,Cell.okWide]at dW;cases v<;>first |rfl |(simp[Cell.ok,hd]at dW)
 |_=>simp[hd]at qA
def args_rep:∀{ts:Z O}{vs:Z A}{ds:Z (DataW H)}{ps:Z MemPlace}{r:Reach}{b0:Nat},(∀t∈ts,t∈TS)->(∀(j:Nat) t v,ts[j]? = some t->vs[j]? = some v->Value.okWide P W r b0 t v)->DataW.TrodAll enc P W 0 (fun _=>true) true ts vs ds ps->
  ∃us,mJ W us vs/\us.length=vs.length/\OfArgs P ts us
 |[],[],[],ps,r,b0,ht,dW,h=>⟨[],by simp[mJ],rfl,rfl⟩|t::ts,v::vs,d::ds,ps,r,b0,ht,dW,h=>by obtain⟨p,q,h1,h2,_⟩:=h;obtain⟨u,g1,g2⟩:=z6h Ig (ht t (by simp)) (dW 0 t v rfl rfl) h1;obtain⟨us,k1,k2,k3⟩:=args_rep (fun x hx=>ht x (by simp[hx])) (fun j x y h3 h4=>dW (j+1) x y (by simpa using h3) (by simpa using h4)) h2;exact⟨u::us,by simp[mJ,g1,k1],by simp[k2],u,us,rfl,g2,k3⟩
 |[],_::_,_,ps,r,b0,ht,dW,h=>by simp[DataW.TrodAll]at h
 |[],[],_::_,ps,r,b0,ht,dW,h=>by simp[DataW.TrodAll]at h
 |_::_,[],_,ps,r,b0,ht,dW,h=>by simp[DataW.TrodAll]at h
 |_::_,_::_,[],ps,r,b0,ht,dW,h=>by simp[DataW.TrodAll]at h
end
def NC:I lJ->I lJ
 |some (.inl (l,e,1))=>some (.inl (l,e,1))|_=>none
def Dl(g:Nat->I lJ):Hp->Hp
 |[]=>[]|(i,_)::h=>match g i with
  |some b=>(i,b)::Dl g h|none=>Dl g h
def qyj(g:Nat->I lJ):∀(h:Hp)(i:Nat),lk (Dl g h) i=(match lk h i with |some _=>g i |none=>none)
 |[],i=>by simp[Dl,lk]
 |(j,b)::h,i=>by
  have ih:=qyj g h i;simp only[Dl];cases hg:g j with
  |none=>simp only[lQ];by_cases e:j=i;subst e;simp only[if_true];rw[ih,hg];split<;>rfl;simp only[e,if_false];exact ih|some c=>simp only[lQ];by_cases e:j=i;subst e;simp[hg];simp only[e,if_false];exact ih
def JI(s:S):S:=⟨Dl (fun i=>NC (lk s.h i)) s.h,s.nx⟩
def WT(s:S)(i:Nat):lk (JI s).h i=NC (lk s.h i):=by simp only[JI,qyj];rcases h:lk s.h i with _|b;rfl;simp
def Fv{o:I lJ}{b:lJ}(h:NC o=some b):o=some b/\∃l e,b=.inl (l,e,1):=by unfold NC at h;split at h;simp at h;subst h;exact⟨rfl,_,_,rfl⟩;cases h
def qvw(s:S):Less s (JI s):=⟨zF _,fun i b hb=>by rw[WT]at hb;exact(Fv hb).1⟩
def aV.view{P:Uz}{f:FuncId}{args args':Z U}{X:Sg}{u:U}{v:A}(h:aV P f args ⟨[],0⟩ (fun u' _=>u'=u/\aP 0 u'))(ha:aF 0 args)(hu:toV u=some v)(NJ:∀m,ren m v=v){dK:Sg}(hg:Gh 0 args' X args dK):aV P f args' X (fun u' X'=>u'=u/\X'=X):=fun F x vs m w cargs hx hh fP he eG cJ=>by
 obtain⟨y1,a1,a2,a3,a4,a5,a6⟩:=hg F x vs hx hh fP he;have w7:=a1 m w eG;have fB:=bQ.less w7.fits (qvw y1.s);have eY:Mo 0 y1 (cx (JI y1.s)):=⟨fun k hk=>by omega,fun i row e hl=>by show lk (JI y1.s).h i=_;rw[WT,hl];rfl⟩;have fF:∀b,¬ UC m (JI y1.s) b:=fun b ⟨i,c,hc,ho,_⟩=>by rw[WT]at hc;obtain⟨_,l,e,rfl⟩:=Fv hc;simp[Own]at ho
 refine(h (fun _ _=>False) (cx (JI y1.s)) vs m w cargs rfl ⟨fun k b hb=>by simp[cx,gt]at hb,fun k k' b b' i hb=>by simp[cx,gt]at hb,fun i b hb=>?_⟩ (fun _ _ J=>J.elim) (eY.ke.E ha a5) fB.fits (cJ.ext (aJ.refl _ _) (Nat.le_trans w7.nx fB.nx))).mono ?_;have bV:lk (JI y1.s).h i=some b:=hb;rw[WT]at bV;exact a3.bd i b (Fv bV).1;rintro e BM ⟨y2,GB,u',v',cv,rfl,⟨rfl,_⟩,aO,gY,_,_,CT,_,_⟩;have hv:=(vF u' v hu y2 v').1 CT;subst hv;have hcv:cv=v':=by rw[<-gY.at,NJ]
 subst hcv;have sR:∀b,b<w.heap.size->BM.heap[b]? = w.heap[b]?:=fun b aH=>aO.same b aH (fF b);refine⟨x,m,u',cv,cv,rfl,⟨rfl,hx⟩,⟨aJ.refl _ _,zF _,fun m' fS=>?_,fun b h=>.inl h,fun b aH _=>sR b aH,aO.size,aO.os,aO.tape,aO.output⟩,fun m' _=>NJ m',hh,fP,(vF u' cv hu x cv).2 rfl,Ke.refl _ _,zF _⟩;have NY:=eG m' fS;exact⟨fun i b hb=>(NY.ok i b hb).world (sR _ (NY.size hb)),NY.inj,NY.bd⟩
abbrev RK:=Nat×dZ
def RH(P:Uz)(T:Tb)(aA:Z Oper):Z Oper->Z U->Sg->Z RK->(Z RK->Z U->Sg->Prop)->Prop
 |[],tm,X,aY,K=>K aY tm X|o::r,tm,X,aY,K=>(cA aA tm o=some true/\∃u,bF T X tm o.op=some (u,X)/\RH P T aA r (dX tm o.dst u) X ((1,⟨tm,o,u,false,false,X,X⟩)::aY) K)\/ (cA aA tm o=some true/\∃u X',bF T X tm o.op=some (u,X')/\RH P T aA r (dX tm o.dst u) X' ((3,⟨tm,o,u,true,true,X,X'⟩)::aY) K)\/ (cA aA tm o=some true/\∃f args u,jG T tm o.op=some (f,args)/\aV P f args X (fun u' X'=>u'=u/\X'=X)/\RH P T aA r (dX tm o.dst u) X ((2,⟨tm,o,u,true,false,X,X⟩)::aY) K)\/ (cA aA tm o=some true/\∃f args u X',jG T tm o.op=some (f,args)/\aV P f args X (fun u' s'=>u'=u/\s'=X')/\RH P T aA r (dX tm o.dst u) X' ((3,⟨tm,o,u,true,true,X,X'⟩)::aY) K)\/ (cA aA tm o=some false/\RH P T aA r (dX tm o.dst (.tup [])) X ((0,⟨tm,o,.tup [],false,false,X,X⟩)::aY) K)\/ (cA aA tm o=some true/\∃u,sK P T tm o.op u/\RH P T aA r (dX tm o.dst u) X ((0,⟨tm,o,u,false,false,X,X⟩)::aY) K)\/ (cA aA tm o=some true/\∃u1 s1 d u X',bF T X tm o.op=some (u1,s1)/\o.dst=some d/\d<tm.length/\Gh s1.nx [u1] s1 [u] X'/\s1.nx<=X'.nx/\RH P T aA r (dX tm o.dst u) X' ((3,⟨tm,o,u,true,true,X,X'⟩)::aY) K)
def kindOk(T:Tb)(aA:Z Oper)(x:RK):Prop :=
 (x.1=0/\(cA aA x.2.tm x.2.o=some false\/bF T x.2.s x.2.tm x.2.o.op≠some (x.2.u,x.2.s'))/\x.2.act=false/\x.2.mv=false)\/(x.1=1/\x.2.act=false/\x.2.mv=false)\/(x.1=2/\x.2.act=true/\x.2.mv=false)\/(x.1=3/\x.2.act=true/\x.2.mv=true)
def RD.mono{P:Uz}{T:Tb}{aA:Z Oper}:∀{rest:Z Oper}{tm:Z U}{X:Sg}{K K':Z dZ->Z U->Sg->Prop},(∀rs tm X,K rs tm X->K' rs tm X)->RD P T aA rest tm X K->RD P T aA rest tm X K'
 |[],tm,X,K,K',hk,h=>hk _ _ _ h|o::rest,tm,X,K,K',hk,h=>by simp only[RD]at h ⊢;rcases h with⟨hw,u,h1,h2⟩|⟨hw,u,dK,h1,h2⟩|⟨hw,f,args,u,h1,h2,h3⟩|⟨hw,f,args,u,dK,h1,h2,h3⟩|⟨hw,h1⟩|⟨hw,u,h1,h3⟩|⟨hw,u1,s1,d,u,dK,h1,h2,h3,h4,h5,h6⟩;exact .inl ⟨hw,u,h1,RD.mono (fun _ _ _ h=>hk _ _ _ h) h2⟩;exact .inr (.inl ⟨hw,u,dK,h1,RD.mono (fun _ _ _ h=>hk _ _ _ h) h2⟩);exact .inr (.inr (.inl ⟨hw,f,args,u,h1,h2,RD.mono (fun _ _ _ h=>hk _ _ _ h) h3⟩));exact .inr (.inr (.inr (.inl ⟨hw,f,args,u,dK,h1,h2,RD.mono (fun _ _ _ h=>hk _ _ _ h) h3⟩)));exact .inr (.inr (.inr (.inr (.inl ⟨hw,RD.mono (fun _ _ _ h=>hk _ _ _ h) h1⟩))));exact .inr (.inr (.inr (.inr (.inr (.inl ⟨hw,u,h1,RD.mono (fun _ _ _ h=>hk _ _ _ h) h3⟩)))));exact .inr (.inr (.inr (.inr (.inr (.inr ⟨hw,u1,s1,d,u,dK,h1,h2,h3,h4,h5,RD.mono (fun _ _ _ h=>hk _ _ _ h) h6⟩)))))
def RH.rd{P:Uz}{T:Tb}{aA:Z Oper}:∀{rest:Z Oper}{tm:Z U}{X:Sg}{aY:Z RK}{K:Z RK->Z U->Sg->Prop},RH P T aA rest tm X aY K->
  RD P T aA rest tm X (fun rs tm' X'=>∃ks:Z RK,ks.map (·.2)=rs/\(∀x∈ks,kindOk T aA x)/\K (ks.reverse++aY) tm' X')
 |[],tm,X,aY,K,h=>⟨[],rfl,by simp,h⟩|o::rest,tm,X,aY,K,h=>by
  have step:∀(k:RK),kindOk T aA k->∀(rs:Z dZ)(tm':Z U)(X':Sg),(∃ks:Z RK,ks.map (·.2)=rs/\(∀x∈ks,kindOk T aA x)/\K (ks.reverse++k::aY) tm' X')->
    ∃ks:Z RK,ks.map (·.2)=k.2::rs/\(∀x∈ks,kindOk T aA x)/\K (ks.reverse++aY) tm' X':=by
   rintro k hk rs tm' X' ⟨ks,h1,h2,h3⟩;refine⟨k::ks,by simp[h1],?_,by simpa using h3⟩;intro x hx;rcases zI.1 hx with rfl |hx;exact hk;exact h2 x hx
  simp only[RH]at h;simp only[RD];rcases h with⟨hw,u,h1,h2⟩|⟨hw,u,dK,h1,h2⟩|⟨hw,f,args,u,h1,h2,h3⟩|⟨hw,f,args,u,dK,h1,h2,h3⟩|⟨hw,h1⟩|⟨hw,u,h1,h3⟩|⟨hw,u1,s1,d,u,dK,h1,h2,h3,h4,h5,h6⟩;exact .inl ⟨hw,u,h1,RD.mono (step (1,_) (.inr (.inl ⟨rfl,rfl,rfl⟩))) (RH.rd h2)⟩;exact .inr (.inl ⟨hw,u,dK,h1,RD.mono (step (3,_) (.inr (.inr (.inr ⟨rfl,rfl,rfl⟩)))) (RH.rd h2)⟩);exact .inr (.inr (.inl ⟨hw,f,args,u,h1,h2,RD.mono (step (2,_) (.inr (.inr (.inl ⟨rfl,rfl,rfl⟩)))) (RH.rd h3)⟩));exact .inr (.inr (.inr (.inl ⟨hw,f,args,u,dK,h1,h2,RD.mono (step (3,_) (.inr (.inr (.inr ⟨rfl,rfl,rfl⟩)))) (RH.rd h3)⟩)));exact .inr (.inr (.inr (.inr (.inl ⟨hw,RD.mono (step (0,_) (.inl ⟨rfl,.inl hw,rfl,rfl⟩)) (RH.rd h1)⟩))));exact .inr (.inr (.inr (.inr (.inr (.inl ⟨hw,u,h1,RD.mono (step (0,_) (.inl ⟨rfl,.inr (h1.noop _),rfl,rfl⟩)) (RH.rd h3)⟩)))));exact .inr (.inr (.inr (.inr (.inr (.inr ⟨hw,u1,s1,d,u,dK,h1,h2,h3,h4,h5,RD.mono (step (3,_) (.inr (.inr (.inr ⟨rfl,rfl,rfl⟩)))) (RH.rd h6)⟩)))))
def allI{v11:Type}(p:Nat->v11->BQ):Nat->Z v11->BQ
 |_,[]=>true|b,x::l=>p b x&&allI p (b+1) l
def ak{v11:Type}{p:Nat->v11->BQ}:∀{b:Nat}{l:Z v11},allI p b l=true->∀{j:Nat}{x:v11},l[j]? = some x->p (b+j) x=true
 |b,[],_,j,x,hx=>by simp at hx
 |b,y::l,h,j,x,hx=>by
  simp only[allI,Bool.and_eq_true]at h;cases j with
  |zero=>simp at hx;subst hx;exact h.1|succ j=>
   simp only[zH]at hx;have:=ak h.2 hx
   rwa [show b+1+j=b+(j+1) by omega]at this
def Hr(k:Nat):Nat:=cond (Nat.beq k 3) 1 0
def trip:Nat->Z Nat->Z Nat->Z (Nat×Nat×Nat)
 |c,k::ks,m::ms=>(k,m,c)::trip (c+Hr k) ks ms|_,_,_=>[]
def o9:Z Nat->Nat
 |[]=>0|k::ks=>Hr k+o9 ks
def z0m:∀(ks ms:Z Nat)(c j k m:Nat),ks[j]? = some k->ms[j]? = some m->(trip c ks ms)[j]? = some (k,m,c+o9 (ks.take j))
 |[],_,c,j,k,m,h,_=>by simp at h
 |_::_,[],c,j,k,m,_,h=>by simp at h
 |k0::ks,m0::ms,c,0,k,m,h1,h2=>by simp at h1 h2;subst h1;subst h2;simp[trip,o9]
 |k0::ks,m0::ms,c,j+1,k,m,h1,h2=>by simp only[zH]at h1 h2;simp only[trip,zH,List.take_succ_cons,o9];rw[z0m ks ms _ j k m h1 h2];simp only[Nat.add_assoc]
def CF(i k:Nat):Z (Nat×Nat)->BQ
 |[]=>false|p::l=>(Nat.beq i p.1&&Nat.beq k p.2)||CF i k l
def J'{i k:Nat}:∀{l:Z (Nat×Nat)},CF i k l=true->(i,k)∈l
 |[],h=>by simp[CF]at h
 |p::l,h=>by simp only[CF,Bool.or_eq_true,Bool.and_eq_true]at h;rcases h with⟨h1,h2⟩|h;rw[Nat.eq_of_beq_eq_true h1,Nat.eq_of_beq_eq_true h2];simp;exact List.mem_cons_of_mem _ (J' h)
def Qp(pr:Z (Nat×Nat))(i:Nat)(a:Nat×Nat×Nat)(k:Nat)(b:Nat×Nat×Nat):BQ :=
 cond (Nat.ble 2 b.1) (cond (Nat.ble 2 a.1) (cond (Nat.blt k i) (Nat.testBit a.2.1 k) true) (cond (Nat.beq a.1 1) (cond (Nat.blt k i) (Nat.testBit a.2.1 k||(Nat.beq b.2.2 a.2.2||CF i k pr)) (Nat.testBit b.2.1 i||(Nat.beq a.2.2 (b.2.2+Hr b.1)||CF i k pr)))
    true))
  true
def flE(aA:Z Oper)(ks:Z Nat)(pr:Z (Nat×Nat)):BQ :=
 let L:=trip 0 ks (dN aA [])
 allI (fun i a=>allI (fun k b=>Qp pr i a k b) 0 L) 0 L
def Yk(T:Tb)(ks:Z RK)(p:Nat×Nat):Prop:=match nth ks p.1,nth ks p.2 with
 |some r,some q=>cond (Nat.blt p.2 p.1) (bF T q.2.s r.2.tm r.2.o.op=some (r.2.u,q.2.s)) (bF T q.2.s' r.2.tm r.2.o.op=some (r.2.u,q.2.s'))|_,_=>False
def Za(T:Tb)(ks:Z RK):Z (Nat×Nat)->Prop
 |[]=>True|p::l=>Yk T ks p/\Za T ks l
def nh{T:Tb}{ks:Z RK}:∀{l:Z (Nat×Nat)},Za T ks l->∀p∈l,Yk T ks p
 |[],_,p,hp=>by cases hp
 |q::l,h,p,hp=>by rcases zI.1 hp with rfl |hp;exact h.1;exact nh h.2 p hp
def z2c{ks:Z Nat}:∀{q p:Nat},p<=q->q<=ks.length->o9 (ks.take p)=o9 (ks.take q)->∀(e k:Nat),p<=e->e<q->ks[e]? = some k->k≠3
 |q,p,rR,hq,h,e,k,h1,h2,h3=>by
  have mono:∀(l:Z Nat)(a b:Nat),a<=b->o9 (l.take a)<=o9 (l.take b):=by
   intro l;induction l with
   |nil=>intro a b _;simp[o9]|cons x l ih=>
    intro a b D5;cases a with
    |zero=>simp[o9]|succ a=>cases b with|zero=>omega|succ b=>simp only[List.take_succ_cons,o9];have:=ih a b (by omega);omega
  have succ:∀(l:Z Nat)(a k:Nat),l[a]? = some k->o9 (l.take (a+1))=o9 (l.take a)+Hr k:=by
   intro l;induction l with
   |nil=>intro a k h;simp at h|cons x l ih=>
    intro a k h;cases a with
    |zero=>simp at h;subst h;simp[o9]|succ a=>simp only[zH]at h;simp only[List.take_succ_cons,o9];rw[ih a k h];omega
  intro hk;have a1:=mono ks p e h1;have a2:=succ ks e k h3;have a3:=mono ks (e+1) q (by omega);rw[hk]at a2;have:Hr 3=1:=rfl;omega
section
variable{C:PG}{T:Tb}(hT:iK C.prog T){n0:Nat}{Q:Exit->Z U->Sg->Prop}{tm:Z U}{X:Sg}
include hT
def WPU.drawE {id : Nat} {aA : Bo Oper} (pr : Z (Nat × Nat)) (c9 : WY aA.toList = true)
    (h:RH C.prog T aA.toList aA.toList tm X [] (fun ks tm' X'=> flE aA.toList (ks.reverse.map (·.1)) pr=true/\Za T ks.reverse pr/\Q .normal tm' X')):WPU C n0 (.region id aA true) tm X Q:=by
  obtain⟨rs,tm',X',⟨ks,tR,hkk,B0,m8,hQ⟩,g2,g3,g4,g5⟩:=PI _ _ _ _ (RH.rd h);simp only[List.append_nil,List.reverse_reverse]at B0 m8;have iQ:mf C.prog T aA.toList tm X rs tm' X':=⟨g2,g3,g4,fun i r hr=> by obtain⟨a,b,c,d,_⟩:=g5 i r hr;exact⟨a,b,c,d⟩⟩;have same : ∀(p q:Nat),p<=q->q<=rs.length->(∀(e:Nat)(r:dZ),p<=e->e<q->rs[e]? = some r->r.mv=false)->j8 rs X' p=j8 rs X' q:=by
    intro p q rR hq fF;induction q with
    | zero => have : p = 0 := by omega
              rw[this]
    |succ q ih=>
      rcases Nat.lt_or_ge q p with h |h;have:p=q+1:=by omega
      rw[this];rw[ih h (by omega) fun e r h1 h2 h3=> fF e r h1 (by omega) h3];have hr:rs[q]? = some rs[q]:=by simp[show q<rs.length by omega]
      obtain⟨_,_,k3,_,k5,_⟩:=g5 q _ hr;rw[k3,k5 (fF q _ h (zN _) hr)];simp[j8,hr]
  have aN:ks.length=rs.length:=by rw[<-tR];simp
  have at_ : ∀(i:Nat)(r:dZ),rs[i]? = some r->∃k,ks[i]? = some (k,r)/\kindOk T aA.toList (k,r):=by intro i r hr;rw[<-tR]at hr;simp only[List.getElem?_map]at hr;rcases hk:ks[i]? with _|x;rw[hk]at hr;simp at hr;obtain⟨k,r'⟩:=x;rw[hk]at hr;simp at hr;subst hr;exact⟨k,rfl,hkk _ (zX hk)⟩
  have trp : ∀(i k:Nat)(r:dZ),ks[i]? = some (k,r)->∃m,(dN aA.toList [])[i]? = some m/\(trip 0 (ks.map (·.1)) (dN aA.toList []))[i]? = some (k,m,o9 ((ks.map (·.1)).take i)):=by
    intro i k r hk;obtain⟨m1,_,_⟩:=fm aA.toList [];have hi:i<aA.toList.length:=by rw[<-g2, <-aN];exact(zG.1 hk).1
    have hm:i<(dN aA.toList []).length:=by rw[m1];simpa using hi
    refine⟨(dN aA.toList [])[i],by simp[hm], ?_⟩;have:=z0m (ks.map (·.1)) (dN aA.toList []) 0 i k _ (by simp[hk]) (show(dN aA.toList [])[i]? = some (dN aA.toList [])[i] by simp[hm])
    rwa [Nat.zero_add]at this
  have chk : ∀ (i k ki kk : Nat) (r q : dZ), ks[i]? = some (ki, r) -> ks[k]? = some (kk, q) -> ∃ mi mk, (dN aA.toList [])[i]? = some mi /\ (dN aA.toList [])[k]? = some mk /\
      Qp pr i (ki,mi,o9 ((ks.map (·.1)).take i)) k (kk,mk,o9 ((ks.map (·.1)).take k))=true:=by
    intro i k ki kk r q hi hk;obtain⟨mi,e1,e2⟩:=trp i ki r hi;obtain⟨mk,e3,e4⟩:=trp k kk q hk;refine⟨mi,mk,e1,e3, ?_⟩;have h1:=ak B0 e2;have h2:=ak h1 e4;simpa using h2
  have nomv : ∀(p q:Nat),p<=q->q<=rs.length->o9 ((ks.map (·.1)).take p)=o9 ((ks.map (·.1)).take q)->j8 rs X' p=j8 rs X' q:=by
    intro p q rR hq hc;refine same p q rR hq fun e r h1 h2 h3=> ?_;obtain⟨k,hk,Tn⟩:=at_ e r h3;have:=z2c rR (by simp;omega) hc e k h1 h2 (by simp[hk]);rcases Tn with h |h |h |h
    exact h.2.2.2;exact h.2.2;exact h.2.2;exact absurd h.1 this
  have kact : ∀(i:Nat)(r:dZ),rs[i]? = some r->r.act=true->∃k,ks[i]? = some (k,r)/\Nat.ble 2 k=true:=by intro i r hr ha;obtain⟨k,hk,Tn⟩:=at_ i r hr;refine⟨k,hk, ?_⟩;rcases Tn with h |h |h |h;have:=h.2.2.1;simp only[]at this;rw[ha]at this;cases this;have:=h.2.1;simp only[]at this;rw[ha]at this;cases this;have:=h.1;simp only[]at this;subst this;rfl;have:=h.1;simp only[]at this;subst this;rfl
  have kqu : ∀(i:Nat)(r:dZ),rs[i]? = some r->r.act=false->cA aA.toList r.tm r.o=some true->bF T r.s r.tm r.o.op=some (r.u,r.s')->ks[i]? = some (1,r):=by intro i r hr ha hw hl;obtain⟨k,hk,Tn⟩:=at_ i r hr;rcases Tn with h |h |h |h;rcases h.2.1 with h' |h';simp only[]at h';rw[hw]at h';cases h';exact absurd hl h';have:=h.1;simp only[]at this;subst this;exact hk;have:=h.2.1;simp only[]at this;rw[ha]at this;cases this;have:=h.2.1;simp only[]at this;rw[ha]at this;cases this
  have succ : ∀(l:Z Nat)(a k:Nat),l[a]? = some k->o9 (l.take (a+1))=o9 (l.take a)+Hr k:=by
    intro l;induction l with
    |nil=> intro a k h;simp at h|cons x l ih=>
      intro a k h;cases a with
      |zero=> simp at h;subst h;simp[o9]|succ a=> simp only[zH]at h;simp only[List.take_succ_cons,o9];rw[ih a k h];omega
  refine WPU.drawn hT c9 iQ ⟨fun i k r q hr hq ha hb aH=> ?_,fun i k r q hr hq ha hw hl hb aH=> ?_,fun i k r q hr hq ha hw hl hb aH=> ?_⟩ (fun i r hr h=> (g5 i r hr).2.2.2.2.2 h) hQ;obtain⟨ki,h1,h2⟩:=kact i r hr ha;obtain⟨kk,h3,h4⟩:=kact k q hq hb;obtain⟨mi,mk,e1,e2,e3⟩:=chk i k ki kk r q h1 h3;simp only[Qp,h2,h4,zC,oL aH]at e3;exact⟨mi,e1,e3⟩;have h1:=kqu i r hr ha hw hl;obtain⟨kk,h3,h4⟩:=kact k q hq hb;obtain⟨mi,mk,e1,e2,e3⟩:=chk i k 1 kk r q h1 h3;have hb1:Nat.ble 2 1=false:=rfl;have hb2:Nat.beq 1 1=true:=rfl;simp only[Qp,hb1,hb2,h4,zC,zD,oL aH,Bool.or_eq_true]at e3;rcases e3 with e3 |e3 |e3;exact .inl ⟨mi,e1,e3⟩;have:=nomv k i (by omega) (by have:=(zG.1 hr).1;omega) (Nat.eq_of_beq_eq_true e3);exact .inr (.inl (by simpa[j8,hr,hq]using this));have:=nh m8 _ (J' e3);simp only[Yk,i9,h1,h3,oL aH,zC]at this;exact .inr (.inr this);have h1:=kqu i r hr ha hw hl;obtain⟨kk,h3,h4⟩:=kact k q hq hb;obtain⟨mi,mk,e1,e2,e3⟩:=chk i k 1 kk r q h1 h3;have hb1:Nat.ble 2 1=false:=rfl;have hb2:Nat.beq 1 1=true:=rfl;simp only[Qp,hb1,hb2,h4,zC,zD,JU (show ¬ k<i by omega),Bool.or_eq_true]at e3;rcases e3 with e3 |e3 |e3;exact .inl ⟨mk,e2,e3⟩;have hc:o9 ((ks.map (·.1)).take i)=o9 ((ks.map (·.1)).take (k+1)):=by rw[succ _ k kk (by simp[h3])];exact Nat.eq_of_beq_eq_true e3
  have:=nomv i (k+1) (by omega) (by have:=(zG.1 hq).1;omega) hc;have h2:=(iQ.all k q hq).2.2.1;rw[h2]at this;exact .inr (.inl (by simpa[j8,hr]using this.symm));have:=nh m8 _ (J' e3);simp only[Yk,i9,h1,h3,JU (show ¬ k<i by omega),zD]at this;exact .inr (.inr this)
end
def RH.call{P:Uz}{T:Tb}{aA r:Z Oper}{o:Oper}{tm:Z U}{X:Sg}{aY:Z RK}{K:Z RK->Z U->Sg->Prop}{f:FuncId}{args:Z U}{u:U}(hw:cA aA tm o=some true)(hc:jG T tm o.op=some (f,args))(jT:aV P f args X (fun u' X'=>u'=u/\X'=X))
  (h:RH P T aA r (dX tm o.dst u) X ((2,⟨tm,o,u,true,false,X,X⟩)::aY) K):RH P T aA (o::r) tm X aY K:=.inr (.inr (.inl ⟨hw,f,args,u,hc,jT,h⟩))
def RH.callM{P:Uz}{T:Tb}{aA r:Z Oper}{o:Oper}{tm:Z U}{X dK:Sg}{aY:Z RK}{K:Z RK->Z U->Sg->Prop}{f:FuncId}{args:Z U}{u:U}(hw:cA aA tm o=some true)(hc:jG T tm o.op=some (f,args))(jT:aV P f args X (fun u' X'=>u'=u/\X'=dK))
  (h:RH P T aA r (dX tm o.dst u) dK ((3,⟨tm,o,u,true,true,X,dK⟩)::aY) K):RH P T aA (o::r) tm X aY K:=.inr (.inr (.inr (.inl ⟨hw,f,args,u,dK,hc,jT,h⟩)))
mutual
def rU(V:Nat->Nat):U->U
 |.ptr k st off=>.ptr (V k) st off|.sl k off n c=>.sl (V k) off n c
 |.vl k st off n=>.vl (V k) st off n|.map k=>.map (V k)
 |.iptr l=>.iptr (eM V l)|.isl t l=>.isl t (sG V l)
 |.fn f a b=>.fn f (eM V a) (eM V b)|.agg l=>.agg (eM V l)
 |.tup l=>.tup (eM V l)|u=>u
def eM(V:Nat->Nat):Z U->Z U
 |[]=>[]|u::l=>rU V u::eM V l
def sG(V:Nat->Nat):Z (Z U)->Z (Z U)
 |[]=>[]|c::l=>eM V c::sG V l
end
def C2(V:Nat->Nat):∀l,(eM V l).length=l.length
 |[]=>rfl|u::l=>by simp[eM,C2 V l]
def Es(V:Nat->Nat):∀l,(sG V l).length=l.length
 |[]=>rfl|u::l=>by simp[sG,Es V l]
def Qq(V:Nat->Nat)(u:U):okC (rU V u)=okC u:=by cases u<;>simp[rU,okC]
def FO(V:Nat->Nat):∀l,okL (eM V l)=okL l
 |[]=>rfl|u::l=>by simp[eM,okL,Qq,FO V l]
structure UD(n:Nat)(V:Nat->Nat)(x y:Cx):Prop where
 ptr:∀k st off v,k<n->aB x (.ptr k st off) v->aB y (.ptr (V k) st off) v
 sl:∀k off m c v,k<n->aB x (.sl k off m c) v->aB y (.sl (V k) off m c) v
 vl:∀k st off m v,k<n->aB x (.vl k st off m) v->aB y (.vl (V k) st off m) v
 map:∀k v,k<n->aB x (.map k) v->aB y (.map (V k)) v
 imm:∀i row e,lk x.s.h i=some (.inl (row,e,1))->lk y.s.h i=some (.inl (row,e,1))
mutual
def aB.leaf{n:Nat}{V:Nat->Nat}{x y:Cx}(h:UD n V x y):(u:U)->(v:A)->aP n u->aB x u v->aB y (rU V u) v
 |.junk,v,_,_=>by simp[rU,aB]
 |.bool b,v,_,hr=>by simpa[rU,aB]using hr
 |.int k z,v,_,hr=>by simpa[rU,aB]using hr
 |.str l,v,_,hr=>by simpa[rU,aB]using hr
 |.nilp,v,_,hr=>by simpa[rU,aB]using hr
 |.ptr k st off,v,hb,hr=>h.ptr k st off v (by simpa[aP]using hb) hr|.iptr l,v,hb,hr=>by simp only[rU,aB]at*;obtain⟨i,off,row,e,h1,h2,h3,h4⟩:=hr;exact⟨i,off,row,e,h1,h.imm _ _ _ h2,c8.leaf h l _ (by simpa[aP]using hb) h3,by rw[FO];exact h4⟩
 |.nils,v,_,hr=>by simpa[rU,aB]using hr
 |.sl k off m c,v,hb,hr=>h.sl k off m c v (by simpa[aP]using hb) hr|.vl k st off m,v,hb,hr=>h.vl k st off m v (by simpa[aP]using hb) hr
 |.isl t l,v,hb,hr=>by simp only[rU,aB]at*;rcases hr with⟨rfl,hr⟩|⟨i,off,c,h1,h2,h3⟩;exact .inl ⟨rfl,hr⟩;rw[Es];refine .inr ⟨i,off,c,h1,h2,?_⟩;rcases h3 with rfl |⟨row,e,sz,g1,g2,g3⟩;exact .inl rfl;exact .inr ⟨row,e,sz,h.imm _ _ _ g1,gO.leaf h l _ (by simpa[aP]using hb) g2,g3⟩
 |.nilm,v,_,hr=>by simpa[rU,aB]using hr
 |.map k,v,hb,hr=>h.map k v (by simpa[aP]using hb) hr|.fn f a b,v,hb,hr=>by simp only[rU,aB]at*;obtain⟨va,vb,h1,h2,h3,h4,h5⟩:=hr;simp only[aP]at hb;exact⟨va,vb,h1,c8.leaf h a _ hb.1 h2,by rw[C2];exact h3,c8.leaf h b _ hb.2 h4,by rw[C2];exact h5⟩
 |.nilf,v,_,hr=>by simpa[rU,aB]using hr
 |.nili,v,_,hr=>by simpa[rU,aB]using hr
 |.agg l,v,hb,hr=>by simp only[rU,aB]at*;obtain⟨vs,h1,h2,h3,h4⟩:=hr;exact⟨vs,h1,c8.leaf h l _ (by simpa[aP]using hb) h2,by rw[C2];exact h3,by rw[FO];exact h4⟩
 |.tup l,v,hb,hr=>by simp only[rU,aB]at*;obtain⟨vs,h1,h2,h3⟩:=hr;exact⟨vs,h1,c8.leaf h l _ (by simpa[aP]using hb) h2,by rw[C2];exact h3⟩
def c8.leaf{n:Nat}{V:Nat->Nat}{x y:Cx}(h:UD n V x y):(l:Z U)->(vs:Z A)->aF n l->c8 x l vs->c8 y (eM V l) vs
 |[],vs,_,_=>by simp[eM,c8]
 |u::l,[],_,hr=>by simp[c8]at hr
 |u::l,v::vs,hb,hr=>by simp only[eM,c8,aF]at*;exact⟨aB.leaf h u v hb.1 hr.1,c8.leaf h l vs hb.2 hr.2⟩
def gO.leaf{n sz:Nat}{V:Nat->Nat}{x y:Cx}(h:UD n V x y):(l:Z (Z U))->(vs:Z A)->jO n l->gO x sz l vs->gO y sz (sG V l) vs
 |[],vs,_,_=>by simp[sG,gO]
 |c::l,vs,hb,hr=>by simp only[sG,gO,jO]at*;exact⟨by rw[C2];exact hr.1,by rw[FO];exact hr.2.1,c8.leaf h c vs hb.1 hr.2.2.1,gO.leaf h l _ hb.2 hr.2.2.2⟩
end
def rM(V:Nat->Nat)(e:ME):ME:=⟨rU V e.key,rU V e.val,e.born⟩
def rB(V:Nat->Nat):B->B
 |.row l e=>.row (eM V l) e|.vec l e sz st=>.vec (eM V l) e sz st
 |.map es cl=>.map (es.map (rM V)) cl
def PR(V:Nat->Nat)(b:B):(rB V b).st=b.st:=by cases b<;>rfl
mutual
def Yy{n:Nat}{V κ:Nat->Nat}(h:∀k,k<n->κ (V k)=k):(u:U)->aP n u->rU κ (rU V u)=u
 |.ptr k _ _,hb=>by simp only[aP]at hb;simp[rU,h k hb]
 |.sl k _ _ _,hb=>by simp only[aP]at hb;simp[rU,h k hb]
 |.vl k _ _ _,hb=>by simp only[aP]at hb;simp[rU,h k hb]
 |.map k,hb=>by simp only[aP]at hb;simp[rU,h k hb]
 |.iptr l,hb=>by simp only[aP]at hb;simp[rU,Q9 h l hb]
 |.isl t l,hb=>by simp only[aP]at hb;simp[rU,da h l hb]
 |.fn f a b,hb=>by simp only[aP]at hb;simp[rU,Q9 h a hb.1,Q9 h b hb.2]
 |.agg l,hb=>by simp only[aP]at hb;simp[rU,Q9 h l hb]
 |.tup l,hb=>by simp only[aP]at hb;simp[rU,Q9 h l hb]
 |.junk,_=>rfl|.bool _,_=>rfl
 |.int _ _,_=>rfl|.str _,_=>rfl
 |.nilp,_=>rfl|.nils,_=>rfl
 |.nilm,_=>rfl|.nilf,_=>rfl
 |.nili,_=>rfl
def Q9{n:Nat}{V κ:Nat->Nat}(h:∀k,k<n->κ (V k)=k):(l:Z U)->aF n l->eM κ (eM V l)=l
 |[],_=>rfl|u::l,hb=>by simp only[aF]at hb;simp[eM,Yy h u hb.1,Q9 h l hb.2]
def da{n:Nat}{V κ:Nat->Nat}(h:∀k,k<n->κ (V k)=k):(l:Z (Z U))->jO n l->sG κ (sG V l)=l
 |[],_=>rfl|c::l,hb=>by simp only[jO]at hb;simp[sG,Q9 h c hb.1,da h l hb.2]
end
def aX.leaf{n:Nat}{V:Nat->Nat}{x y:Cx}(h:UD n V x y){l:Z U}{vs:Z A}(hb:aF n l)(hr:aX x l vs):aX y (eM V l) vs:=⟨c8.leaf h l vs hb hr.1,by rw[C2];exact hr.2⟩
def mQ.leaf{n:Nat}{V:Nat->Nat}{x y:Cx}(h:UD n V x y){k j:Nat}{b:B}(hb:BelB n b)(gX:y.Y j=x.Y k)(hl:∀i c,x.Y k=some i->lk x.s.h i=some c->lk y.s.h i=some c)(hB:mQ x k b):mQ y j (rB V b):=by
 cases b with
 |row l e=>obtain⟨k1,i,l',e1,e2,e3⟩:=hB;exact⟨by rw[FO];exact k1,i,l',by rw[gX,e1],hl _ _ e1 e2,aX.leaf h hb e3⟩
 |vec l e sz st=>obtain⟨k1,k2,h3⟩:=hB;refine⟨by rw[FO];exact k1,k2,?_⟩;rcases h3 with⟨rfl,h4⟩|⟨i,l',e1,e2,e3⟩;exact .inl ⟨rfl,by rw[gX,h4]⟩;exact .inr ⟨i,l',by rw[gX,e1],hl _ _ e1 e2,aX.leaf h hb e3⟩
 |map es cl=>obtain⟨i,es',e1,e2,e3,e4⟩:=hB;refine⟨i,es',by rw[gX,e1],hl _ _ e1 e2,by simpa using e3,fun j e he=>?_⟩;simp only[List.getElem?_map]at he;rcases hj:es[j]? with _|e0;rw[hj]at he;cases he;rw[hj]at he;simp only[zM,zA]at he;subst he;obtain⟨v,q1,q2,q3,q4⟩:=e4 j e0 hj;have Uo:=hb e0 (zX hj);exact⟨v,q1,aB.leaf h _ _ Uo.1 q2,aB.leaf h _ _ Uo.2 q3,q4⟩
structure Q1(n:Nat)(V:Nat->Nat)(x y:Cx):Prop where
 ptr:∀k st off v,k<n->aB x (.ptr (V k) st off) v->aB y (.ptr k st off) v
 sl:∀k off m c v,k<n->aB x (.sl (V k) off m c) v->aB y (.sl k off m c) v
 vl:∀k st off m v,k<n->aB x (.vl (V k) st off m) v->aB y (.vl k st off m) v
 map:∀k v,k<n->aB x (.map (V k)) v->aB y (.map k) v
 imm:∀i row e,lk x.s.h i=some (.inl (row,e,1))->lk y.s.h i=some (.inl (row,e,1))
mutual
def aB.unleaf{n:Nat}{V:Nat->Nat}{x y:Cx}(h:Q1 n V x y):(u:U)->(v:A)->aP n u->aB x (rU V u) v->aB y u v
 |.junk,v,_,_=>by simp[aB]
 |.bool b,v,_,hr=>by simpa[rU,aB]using hr
 |.int k z,v,_,hr=>by simpa[rU,aB]using hr
 |.str l,v,_,hr=>by simpa[rU,aB]using hr
 |.nilp,v,_,hr=>by simpa[rU,aB]using hr
 |.ptr k st off,v,hb,hr=>h.ptr k st off v (by simpa[aP]using hb) hr|.iptr l,v,hb,hr=>by simp only[rU,aB]at*;obtain⟨i,off,row,e,h1,h2,h3,h4⟩:=hr;exact⟨i,off,row,e,h1,h.imm _ _ _ h2,c8.unleaf h l _ (by simpa[aP]using hb) h3,by rw[FO]at h4;exact h4⟩
 |.nils,v,_,hr=>by simpa[rU,aB]using hr
 |.sl k off m c,v,hb,hr=>h.sl k off m c v (by simpa[aP]using hb) hr|.vl k st off m,v,hb,hr=>h.vl k st off m v (by simpa[aP]using hb) hr
 |.isl t l,v,hb,hr=>by simp only[rU,aB]at*;rcases hr with⟨h0,hr⟩|⟨i,off,c,h1,h2,h3⟩;exact .inl ⟨List.eq_nil_of_length_eq_zero (by rw[<-Es V,h0];rfl),hr⟩;rw[Es]at h1 h2;refine .inr ⟨i,off,c,h1,h2,?_⟩;rcases h3 with h3 |⟨row,e,sz,g1,g2,g3⟩;exact .inl (List.eq_nil_of_length_eq_zero (by rw[<-Es V,h3];rfl));rw[Es]at g3;exact .inr ⟨row,e,sz,h.imm _ _ _ g1,gO.unleaf h l _ (by simpa[aP]using hb) g2,g3⟩
 |.nilm,v,_,hr=>by simpa[rU,aB]using hr
 |.map k,v,hb,hr=>h.map k v (by simpa[aP]using hb) hr|.fn f a b,v,hb,hr=>by simp only[rU,aB]at*;obtain⟨va,vb,h1,h2,h3,h4,h5⟩:=hr;simp only[aP]at hb;rw[C2]at h3 h5;exact⟨va,vb,h1,c8.unleaf h a _ hb.1 h2,h3,c8.unleaf h b _ hb.2 h4,h5⟩
 |.nilf,v,_,hr=>by simpa[rU,aB]using hr
 |.nili,v,_,hr=>by simpa[rU,aB]using hr
 |.agg l,v,hb,hr=>by simp only[rU,aB]at*;obtain⟨vs,h1,h2,h3,h4⟩:=hr;rw[C2]at h3;rw[FO]at h4;exact⟨vs,h1,c8.unleaf h l _ (by simpa[aP]using hb) h2,h3,h4⟩
 |.tup l,v,hb,hr=>by simp only[rU,aB]at*;obtain⟨vs,h1,h2,h3⟩:=hr;rw[C2]at h3;exact⟨vs,h1,c8.unleaf h l _ (by simpa[aP]using hb) h2,h3⟩
def c8.unleaf{n:Nat}{V:Nat->Nat}{x y:Cx}(h:Q1 n V x y):(l:Z U)->(vs:Z A)->aF n l->c8 x (eM V l) vs->c8 y l vs
 |[],vs,_,_=>by simp[c8]
 |u::l,[],_,hr=>by simp[eM,c8]at hr
 |u::l,v::vs,hb,hr=>by simp only[eM,c8,aF]at*;exact⟨aB.unleaf h u v hb.1 hr.1,c8.unleaf h l vs hb.2 hr.2⟩
def gO.unleaf{n sz:Nat}{V:Nat->Nat}{x y:Cx}(h:Q1 n V x y):(l:Z (Z U))->(vs:Z A)->jO n l->gO x sz (sG V l) vs->gO y sz l vs
 |[],vs,_,_=>by simp[gO]
 |c::l,vs,hb,hr=>by simp only[sG,gO,jO]at*;exact⟨by rw[<-C2 V];exact hr.1,by rw[<-FO V];exact hr.2.1,c8.unleaf h c vs hb.1 hr.2.2.1,gO.unleaf h l _ hb.2 hr.2.2.2⟩
end
def aX.unleaf{n:Nat}{V:Nat->Nat}{x y:Cx}(h:Q1 n V x y){l:Z U}{vs:Z A}(hb:aF n l)(hr:aX x (eM V l) vs):aX y l vs:=⟨c8.unleaf h l vs hb hr.1,by rw[<-C2 V];exact hr.2⟩
def mQ.unleaf{n:Nat}{V:Nat->Nat}{x y:Cx}(h:Q1 n V x y){k j:Nat}{b:B}(hb:BelB n b)(gX:y.Y j=x.Y k)(hl:∀i c,x.Y k=some i->lk x.s.h i=some c->lk y.s.h i=some c)(hB:mQ x k (rB V b)):mQ y j b:=by
 cases b with
 |row l e=>obtain⟨k1,i,l',e1,e2,e3⟩:=hB;exact⟨by rw[FO]at k1;exact k1,i,l',by rw[gX,e1],hl _ _ e1 e2,aX.unleaf h hb e3⟩
 |vec l e sz st=>obtain⟨k1,k2,h3⟩:=hB;rw[FO]at k1;refine⟨k1,k2,?_⟩;rcases h3 with⟨h3,h4⟩|⟨i,l',e1,e2,e3⟩;exact .inl ⟨List.eq_nil_of_length_eq_zero (by rw[<-C2 V,h3];rfl),by rw[gX,h4]⟩;exact .inr ⟨i,l',by rw[gX,e1],hl _ _ e1 e2,aX.unleaf h hb e3⟩
 |map es cl=>
  obtain⟨i,es',e1,e2,e3,e4⟩:=hB;refine⟨i,es',by rw[gX,e1],hl _ _ e1 e2,by simpa using e3,fun j e he=>?_⟩;have hj:(es.map (rM V))[j]? = some (rM V e):=by simp[he]
  obtain⟨v,q1,q2,q3,q4⟩:=e4 j _ hj;have Uo:=hb e (zX he);exact⟨v,q1,aB.unleaf h _ _ Uo.1 q2,aB.unleaf h _ _ Uo.2 q3,q4⟩
def ix:Z Nat->Nat->Nat->I Nat
 |[],_,_=>none|a::l,k,i=>cond (Nat.beq a k) (some i) (ix l k (i+1))
def nm:Z Nat->Nat->Nat->Nat
 |[],nx,j=>nx+j|a::_,_,0=>a
 |_::l,nx,j+1=>nm l nx j
def FP:∀(ns:Z Nat)(nx j:Nat),j<ns.length->∃h:j<ns.length,nm ns nx j=ns[j]
 |a::l,nx,0,h=>⟨h,rfl⟩|a::l,nx,j+1,h=>by obtain⟨h',e⟩:=FP l nx j (by simpa using h);exact⟨h,by simp[nm,e]⟩
def JJ:∀(ns:Z Nat)(nx j:Nat),ns.length<=j->nm ns nx j=nx+(j-ns.length)
 |[],nx,j,_=>by simp[nm]
 |a::l,nx,0,h=>by simp at h
 |a::l,nx,j+1,h=>by simp only[nm,JJ l nx j (by simpa using h)];simp
def z5p{ns:Z Nat}{nx:Nat}(mZ:ns.Nodup)(aH:∀k∈ns,k<nx){i j:Nat}(h:nm ns nx i=nm ns nx j):i=j:=by by_cases hi:i<ns.length;obtain⟨_,e1⟩:=FP ns nx i hi;by_cases hj:j<ns.length;obtain⟨_,e2⟩:=FP ns nx j hj;rw[e1,e2]at h;exact(List.getElem_inj mZ).1 h;rw[e1,JJ ns nx j (by omega)]at h;have:=aH _ (List.getElem_mem hi);omega;rw[JJ ns nx i (by omega)]at h;by_cases hj:j<ns.length;obtain⟨_,e2⟩:=FP ns nx j hj;rw[e2]at h;have:=aH _ (List.getElem_mem hj);omega;rw[JJ ns nx j (by omega)]at h;omega
def OR:Z Nat->Nat->BQ
 |[],_=>false|a::l,k=>cond (Nat.beq a k) true (OR l k)
def Zx:∀(l:Z Nat)(k:Nat),OR l k=true↔k∈l
 |[],k=>by simp[OR]
 |a::l,k=>by simp only[OR,beq_eq,zI];by_cases e:a=k;simp[e];have:¬ k=a:=fun h=>e h.symm;simp[e,this,Zx l k]
def wP(ns:Z Nat)(nx:Nat):Z (Nat×B)->Z (Nat×B)
 |[]=>[]|(j,b)::h=>(nm ns nx j,rB (nm ns nx) b)::wP ns nx h
def FS(ns:Z Nat):Z (Nat×B)->Z (Nat×B)
 |[]=>[]|(k,b)::h=>cond (OR ns k) (FS ns h) ((k,b)::FS ns h)
def U'{ns:Z Nat}{nx:Nat}(hi:∀i j,nm ns nx i=nm ns nx j->i=j):∀(h:Z (Nat×B))(j:Nat),gt (wP ns nx h) (nm ns nx j)=(gt h j).map (rB (nm ns nx))
 |[],j=>by simp[wP,gt]
 |(i,b)::h,j=>by simp only[wP,aQ,U' hi h j];by_cases e:i=j;simp[e];have:¬ nm ns nx i=nm ns nx j:=fun h=>e (hi _ _ h);simp[e,this]
def qie{ns:Z Nat}{nx:Nat}:∀(h:Z (Nat×B))(k:Nat),(∀j,nm ns nx j≠k)->gt (wP ns nx h) k=none
 |[],k,_=>by simp[wP,gt]
 |(i,b)::h,k,hk=>by simp[wP,aQ,hk i,qie h k hk]
def Nb(ns:Z Nat):∀(h:Z (Nat×B))(k:Nat),gt (FS ns h) k=if k∈ns then none else gt h k
 |[],k=>by simp[FS,gt]
 |(j,b)::h,k=>by
  have ih:=Nb ns h k;simp only[FS];cases hj:OR ns j with
  |true=>have oS:=(Zx ns j).1 hj;simp only[zC,ih,aQ];by_cases e:j=k;subst e;simp[oS];simp[e]|false=>
   have oS:¬ j∈ns:=fun h=>by rw[(Zx ns j).2 h]at hj;cases hj
   simp only[zD,aQ,ih];by_cases e:j=k;subst e;simp[oS];simp[e]
def fu(a b:Z (Nat×B))(k:Nat):gt (a++b) k=match gt a k with |some c=>some c |none=>gt b k:=by induction a with|nil=>simp[gt]|cons p a ih=>obtain⟨j,c⟩:=p;simp only[List.cons_append,aQ,ih];by_cases e:j=k<;>simp[e]
def Va(ns:Z Nat)(X nF:Sg):Sg:=⟨wP ns X.nx nF.h++FS ns X.h,X.nx+(nF.nx-ns.length)⟩
mutual
def Kn:(u:U)->rU id u=u
 |.ptr k _ _=>by simp[rU]
 |.sl k _ _ _=>by simp[rU]
 |.vl k _ _ _=>by simp[rU]
 |.map k=>by simp[rU]
 |.iptr l=>by simp[rU,L1 l]
 |.isl t l=>by simp[rU,VX l]
 |.fn f a b=>by simp[rU,L1 a,L1 b]
 |.agg l=>by simp[rU,L1 l]
 |.tup l=>by simp[rU,L1 l]
 |.junk=>rfl|.bool _=>rfl
 |.int _ _=>rfl|.str _=>rfl
 |.nilp=>rfl|.nils=>rfl
 |.nilm=>rfl|.nilf=>rfl
 |.nili=>rfl
def L1:(l:Z U)->eM id l=l
 |[]=>rfl|u::l=>by simp[eM,Kn u,L1 l]
def VX:(l:Z (Z U))->sG id l=l
 |[]=>rfl|c::l=>by simp[sG,L1 c,VX l]
end
def mQ.keep{x y:Cx}{k:Nat}{b:B}(h:mQ x k b)(hm:Ke x.X.nx x y)(gX:y.Y k=x.Y k)(hl:∀i c,x.Y k=some i->lk x.s.h i=some c->lk y.s.h i=some c):mQ y k b:=by
 cases b with
 |row l e=>obtain⟨k1,i,l',e1,e2,e3⟩:=h;exact⟨k1,i,l',by rw[gX,e1],hl _ _ e1 e2,hm.E e3.bel e3⟩
 |vec l e sz st=>obtain⟨k1,k2,h3⟩:=h;refine⟨k1,k2,?_⟩;rcases h3 with⟨h3,h4⟩|⟨i,l',e1,e2,e3⟩;exact .inl ⟨h3,by rw[gX,h4]⟩;exact .inr ⟨i,l',by rw[gX,e1],hl _ _ e1 e2,hm.E e3.bel e3⟩
 |map es cl=>obtain⟨i,es',e1,e2,e3⟩:=h;refine⟨i,es',by rw[gX,e1],hl _ _ e1 e2,e3.1,fun j e he=>?_⟩;obtain⟨v,q1,q2,q3,q4⟩:=e3.2 j e he;exact⟨v,q1,hm _ _ (aB.bel _ _ q2) q2,hm _ _ (aB.bel _ _ q3) q3,q4⟩
def mQ.row_at{x:Cx}{k i:Nat}{b:B}(h:mQ x k b)(hi:x.Y k=some i):∃c,lk x.s.h i=some c:=by
 cases b with
 |row l e=>obtain⟨_,i',l',e1,e2,_⟩:=h;rw[hi]at e1;cases e1;exact⟨_,e2⟩
 |vec l e sz st=>obtain⟨_,_,h3⟩:=h;rcases h3 with⟨_,h4⟩|⟨i',l',e1,e2,_⟩;rw[hi]at h4;cases h4;rw[hi]at e1;cases e1;exact⟨_,e2⟩
 |map es cl=>obtain⟨i',es',e1,e2,_⟩:=h;rw[hi]at e1;cases e1;exact⟨_,e2⟩
def aV.frame{P:Uz}{f:FuncId}{args:Z U}{h0:Z (Nat×B)}{R:U->Sg->Prop}(ns:Z Nat)(h:aV P f args ⟨h0,ns.length⟩ R)(X:Sg)(mZ:ns.Nodup)(aH:∀k∈ns,k<X.nx)(ha:aF ns.length args)
  (kO:∀k b,gt h0 k=some b->k<ns.length/\BelB ns.length b/\gt X.h (nm ns X.nx k)=some (rB (nm ns X.nx) b)):
  aV P f (eM (nm ns X.nx) args) X (fun u X'=>∃u0 nF,R u0 nF/\ns.length<=nF.nx/\u=rU (nm ns X.nx) u0/\X'=Va ns X nF):=fun F x vs m w cargs hx hh fP he eG cJ=>by
 subst hx;have Tp:∀i j,nm ns x.X.nx i=nm ns x.X.nx j->i=j:=fun i j h=>z5p mZ aH h;have HB:∀k,k∈ns->∃j,j<ns.length/\nm ns x.X.nx j=k:=fun k hk=>by obtain⟨j,hj,e⟩:=List.getElem_of_mem hk;exact⟨j,hj,by rw[(FP ns x.X.nx j hj).2,e]⟩
 have Td:∀j,j<ns.length->nm ns x.X.nx j<x.X.nx:=fun j hj=>by rw[(FP ns x.X.nx j hj).2];exact aH _ (List.getElem_mem hj)
 let x0:Cx:=⟨fun k=>if k<ns.length then x.Y (nm ns x.X.nx k)else none,⟨h0,ns.length⟩,x.s⟩
 have CM:∀k,k<ns.length->x0.Y k=x.Y (nm ns x.X.nx k):=fun k hk=>by simp[x0,hk]
 have ZI:∀k st (p:I Nat->Prop),k<ns.length->Ref x (nm ns x.X.nx k) st p->Ref x0 k st p:=fun k st p hk ⟨_,h2⟩=>⟨hk,fun b hb=>by obtain⟨_,_,hg⟩:=kO k b hb;have:=h2 _ hg;rw[PR]at this;rw[CM k hk];exact this⟩;have Hw:Q1 ns.length (nm ns x.X.nx) x x0:={
  ptr:=fun k st off v hk hr=>by simp only[aB]at*;exact⟨hr.1,ZI k st _ hk hr.2⟩
  sl:=fun k off m c v hk hr=>by simp only[aB]at*;exact⟨hr.1,ZI k 0 _ hk hr.2⟩
  map:=fun k v hk hr=>by simp only[aB]at*;exact⟨hr.1,ZI k 0 _ hk hr.2⟩
  vl:=fun k st off m v hk hr=>by
   simp only[aB]at*;obtain⟨g1,g2,g3⟩:=hr;refine⟨g1,hk,fun b hb=>?_⟩;obtain⟨_,_,hg⟩:=kO k b hb;obtain⟨g4,g5⟩:=g3 _ hg;rw[PR]at g4 g5;refine⟨g4,fun e=>?_⟩;obtain⟨l,e',sz,e7,e8⟩:=g5 e;rw[CM k hk];cases b with
   |vec l0 e0 Kf st0=>simp only[rB,B.vec.injEq]at e7;obtain⟨_,rfl,rfl,rfl⟩:=e7;exact⟨l0,_,_,rfl,e8⟩
   |row _ _=>simp[rB]at e7|map _ _=>simp[rB]at e7
  imm:=fun i row e hl=>hl }
 have hh0:i8 x0:=⟨fun k b hb=>by obtain⟨h1,h2,h3⟩:=kO k b hb;exact⟨h1,mQ.unleaf Hw h2 (CM k h1) (fun i c _ hl=>hl) (hh.ok _ _ h3).2⟩,
  fun k k' b b' i hb bV hi gU=>by obtain⟨h1,h2,h3⟩:=kO k b hb;obtain⟨pI,xT,OA⟩:=kO k' b' bV;rw[CM k h1]at hi;rw[CM k' pI]at gU;exact Tp _ _ (hh.inj _ _ _ _ i h3 OA hi gU),
  hh.bd⟩
 let F0:Nat->lJ->Prop:=fun i b=>lk x.s.h i=some b/\∀k c,gt h0 k=some c->x.Y (nm ns x.X.nx k)≠some i
 have u?:Fr F0 x0:=fun i b J=>⟨J.1,fun k c hc=>by rw[CM k (kO k c hc).1];exact J.2 k c hc⟩;refine(h F0 x0 vs m w cargs rfl hh0 u? (aX.unleaf Hw ha he) eG cJ).mono ?_;rintro e w₁ ⟨y0,aI,u0,v,cv,rfl,hR,aO,gY,Tt,tT,CT,fT,iE⟩;have mB:ns.length<=y0.X.nx:=iE;have Tr:∀k,k<x.X.nx->¬ k∈ns->∀j,nm ns x.X.nx j≠k:=fun k hk hn j e=>by by_cases hj:j<ns.length;obtain⟨_,e1⟩:=FP ns x.X.nx j hj;rw[e1]at e;exact hn (e ▸ List.getElem_mem hj);rw[JJ ns x.X.nx j (by omega)]at e;omega
 let inv:Nat->I Nat:=fun k=>if k<x.X.nx then ix ns k 0 else some (ns.length+(k-x.X.nx))
 let y:Cx:=⟨fun k=>if k∈ns\/x.X.nx<=k then(match inv k with |some j=>y0.Y j |none=>none)else x.Y k,Va ns x.X y0.X,y0.s⟩
 have n?:∀(l:Z Nat)(j i:Nat),l.Nodup->(hj:j<l.length)->ix l l[j] i=some (i+j):=by
  intro l;induction l with
  |nil=>intro j i _ hj;simp at hj|cons a l ih=>
   intro j i mZ hj;cases j with
   |zero=>simp[ix,beq_eq]|succ j=>have cT:¬ a=l[j]'(by simpa using hj):=fun h=>(List.nodup_cons.1 mZ).1 (h ▸ List.getElem_mem _);simp only[List.getElem_cons_succ,ix,beq_eq,cT,yB,zD];rw[ih j (i+1) (List.nodup_cons.1 mZ).2 (by simpa using hj)];congr 1;omega
 have o?:∀j,inv (nm ns x.X.nx j)=some j:=fun j=>by
  by_cases hj:j<ns.length;have h1:=Td j hj;obtain⟨_,e1⟩:=FP ns x.X.nx j hj;simp only[inv,h1,if_true];rw[e1,n? ns j 0 mZ hj];simp;have e1:=JJ ns x.X.nx j (by omega);have h1:¬ nm ns x.X.nx j<x.X.nx:=by omega
  simp only[inv,h1,if_false,zA];omega
 have CL:∀j,y.Y (nm ns x.X.nx j)=y0.Y j:=fun j=>by
  have h1:nm ns x.X.nx j∈ns\/x.X.nx<=nm ns x.X.nx j:=by by_cases hj:j<ns.length;obtain⟨_,e1⟩:=FP ns x.X.nx j hj;exact .inl (by rw[e1];exact List.getElem_mem hj);rw[JJ ns x.X.nx j (by omega)];exact .inr (by omega)
  simp only[y,h1,if_true,o?]
 have yP:∀k,k<x.X.nx->¬ k∈ns->y.Y k=x.Y k:=fun k hk hn=>by
  have h1:¬ (k∈ns\/x.X.nx<=k):=by rintro(h |h);exact hn h;omega
  simp only[y,h1,if_false]
 have NS:∀j,gt y.X.h (nm ns x.X.nx j)=(gt y0.X.h j).map (rB (nm ns x.X.nx)):=fun j=>by
  show gt (wP ns x.X.nx y0.X.h++FS ns x.X.h) _=_;rw[fu,U' Tp];cases hg:gt y0.X.h j with
  |some b=>rfl|none=>simp only[Option.map_none];rw[Nb];split;rfl;rename_i hn;rcases NW:gt x.X.h (nm ns x.X.nx j)with _|b;rfl;have:=(hh.ok _ _ NW).1;exact absurd rfl (Tr _ this hn j)
 have s?:∀k,k<x.X.nx->¬ k∈ns->gt y.X.h k=gt x.X.h k:=fun k hk hn=>by show gt (wP ns x.X.nx y0.X.h++FS ns x.X.h) _=_;rw[fu,qie _ _ (Tr k hk hn),Nb,if_neg hn]
 have fQ:∀k b,gt y.X.h k=some b->(∃j b0,k=nm ns x.X.nx j/\gt y0.X.h j=some b0/\b=rB (nm ns x.X.nx) b0)\/(k<x.X.nx/\¬ k∈ns/\gt x.X.h k=some b):=fun k b hb=>by
  by_cases hk:∃j,nm ns x.X.nx j=k;obtain⟨j,rfl⟩:=hk;rw[NS]at hb;rcases hg:gt y0.X.h j with _|b0;rw[hg]at hb;cases hb;rw[hg]at hb;simp at hb;exact .inl ⟨j,b0,rfl,hg,hb.symm⟩;have oR:∀j,nm ns x.X.nx j≠k:=fun j e=>hk ⟨j,e⟩
  have tQ:k<x.X.nx:=by rcases Nat.lt_or_ge k x.X.nx with h |h;exact h;exact absurd (by rw[JJ ns x.X.nx _ (by omega)];omega) (oR (ns.length+(k-x.X.nx)))
  have hn:¬ k∈ns:=fun h=>by obtain⟨j,_,e⟩:=HB k h;exact oR j e
  rw[s? k tQ hn]at hb;exact .inr ⟨tQ,hn,hb⟩
 have AO:∀k,k<x.X.nx->k∈ns\/¬ k∈ns:=fun k _=>Classical.em _;have GU:y.X.nx=x.X.nx+(y0.X.nx-ns.length):=rfl;have H9:∀j,j<y0.X.nx->nm ns x.X.nx j<y.X.nx:=fun j hj=>by rw[GU];by_cases oS:j<ns.length;have:=Td j oS;omega;rw[JJ ns x.X.nx j (by omega)];omega
 have H4:∀k st (p:I Nat->Prop),Ref y0 k st p->Ref y (nm ns x.X.nx k) st p:=fun k st p ⟨h1,h2⟩=>⟨H9 k h1,fun b hb=>by rw[NS]at hb;rcases hg:gt y0.X.h k with _|b0;rw[hg]at hb;cases hb;rw[hg]at hb;simp only[zM,zA]at hb;subst hb;rw[PR,CL];exact h2 _ hg⟩;have sU:UD y0.X.nx (nm ns x.X.nx) y0 y:={
  ptr:=fun k st off v _ hr=>by simp only[aB]at*;exact⟨hr.1,H4 k st _ hr.2⟩
  sl:=fun k off m c v _ hr=>by simp only[aB]at*;exact⟨hr.1,H4 k 0 _ hr.2⟩
  map:=fun k v _ hr=>by simp only[aB]at*;exact⟨hr.1,H4 k 0 _ hr.2⟩
  vl:=fun k st off m v _ hr=>by simp only[aB]at*;obtain⟨g1,g2,g3⟩:=hr;refine⟨g1,H9 k g2,fun b hb=>?_⟩;rw[NS]at hb;rcases hg:gt y0.X.h k with _|b0;rw[hg]at hb;cases hb;rw[hg]at hb;simp only[zM,zA]at hb;subst hb;rw[PR,CL];obtain⟨g4,g5⟩:=g3 _ hg;refine⟨g4,fun e=>?_⟩;obtain⟨l,e',sz,rfl,e8⟩:=g5 e;exact⟨_,e',sz,rfl,e8⟩
  imm:=fun i row e hl=>hl }
 have q?:∀i row e,lk x.s.h i=some (.inl (row,e,1))->lk y.s.h i=some (.inl (row,e,1)):=fun i row e hl=>(tT i _ ⟨hl,fun k c hc gX=>(hh.ok _ _ (kO k c hc).2.2).2.not1 gX hl⟩).1;have H5:∀k st (p:I Nat->Prop),¬ k∈ns->Ref x k st p->Ref y k st p:=fun k st p hn ⟨h1,h2⟩=>⟨by rw[GU];omega,fun b hb=>by rw[s? k h1 hn]at hb;rw[yP k h1 hn];exact h2 b hb⟩;have m?:UD x.X.nx id x y:={
  ptr:=fun k st off v hk hr=>by by_cases hn:k∈ns;obtain⟨j,hj,rfl⟩:=HB k hn;exact sU.ptr j st off v (by omega) (fT (.ptr j st off) v (by simpa[aP,x0]using hj) (Hw.ptr j st off v hj hr));simp only[aB]at*;exact⟨hr.1,H5 k st _ hn hr.2⟩
  sl:=fun k off m c v hk hr=>by by_cases hn:k∈ns;obtain⟨j,hj,rfl⟩:=HB k hn;exact sU.sl j off m c v (by omega) (fT (.sl j off m c) v (by simpa[aP,x0]using hj) (Hw.sl j off m c v hj hr));simp only[aB]at*;exact⟨hr.1,H5 k 0 _ hn hr.2⟩
  map:=fun k v hk hr=>by by_cases hn:k∈ns;obtain⟨j,hj,rfl⟩:=HB k hn;exact sU.map j v (by omega) (fT (.map j) v (by simpa[aP,x0]using hj) (Hw.map j v hj hr));simp only[aB]at*;exact⟨hr.1,H5 k 0 _ hn hr.2⟩
  vl:=fun k st off m v hk hr=>by by_cases hn:k∈ns;obtain⟨j,hj,rfl⟩:=HB k hn;exact sU.vl j st off m v (by omega) (fT (.vl j st off m) v (by simpa[aP,x0]using hj) (Hw.vl j st off m v hj hr));simp only[aB,id]at*;obtain⟨g1,g2,g3⟩:=hr;refine⟨g1,by rw[GU];omega,fun b hb=>?_⟩;rw[s? k g2 hn]at hb;rw[yP k g2 hn];exact g3 b hb
  imm:=q? }
 have lH:∀u,rU id u=u/\True:=fun u=>⟨(Kn u),trivial⟩;have SB:Ke x.X.nx x y:=fun u v hb hr=>by
  have:=aB.leaf m? u v hb hr
  rwa [(lH u).1]at this
 have S7:∀k b i c,gt x.X.h k=some b->¬ k∈ns->x.Y k=some i->lk x.s.h i=some c->F0 i c:=fun k b i c hb hn hi hl=>⟨hl,fun j d hd gX=>by
  obtain⟨h1,_,h3⟩:=kO j d hd;have:=hh.inj _ _ _ _ i h3 hb gX hi;have h5:nm ns x.X.nx j∈ns:=by rw[(FP ns x.X.nx j h1).2];exact List.getElem_mem h1
  exact hn (this ▸ h5)⟩
 refine⟨y,aI,rU (nm ns x.X.nx) u0,v,cv,rfl,⟨u0,y0.X,hR,mB,rfl,rfl⟩,aO,gY,⟨fun k b hb=>?_,fun k k' b b' i hb bV hi gU=>?_,Tt.bd⟩,fun i b J=>?_,aB.leaf sU u0 v (aB.bel u0 v CT) CT,SB,by rw[GU];omega⟩;rcases fQ k b hb with⟨j,b0,rfl,hg,rfl⟩|⟨h1,h2,h3⟩;obtain⟨g1,g2⟩:=Tt.ok j b0 hg;exact⟨H9 j g1,mQ.leaf sU (g2.belB) (CL j) (fun i c _ hl=>hl) g2⟩;exact⟨by rw[GU];omega,(hh.ok k b h3).2.keep SB (yP k h1 h2) fun i c hi hl=>(tT i c (S7 k b i c h3 h2 hi hl)).1⟩;have mixed:∀k k' b b0 (j:Nat),k=nm ns x.X.nx j->gt y0.X.h j=some b0->y.Y k=some i->k'<x.X.nx->¬ k'∈ns->gt x.X.h k'=some b->y.Y k'=some i->False:=fun k k' b b0 j e hg hi h1 h2 h3 gU=>by subst e;rw[CL]at hi;rw[yP k' h1 h2]at gU;obtain⟨c,hc⟩:=(hh.ok k' b h3).2.row_at gU;exact(tT i c (S7 k' b i c h3 h2 gU hc)).2 j b0 hg hi
 rcases fQ k b hb with⟨j,b0,e1,hg,_⟩|⟨h1,h2,h3⟩;rcases fQ k' b' bV with⟨j',b0',Br,rC,_⟩|⟨pI,xT,OA⟩;subst e1 Br;rw[CL]at hi gU;rw[Tt.inj j j' b0 b0' i hg rC hi gU];exact(mixed k k' b' b0 j e1 hg hi pI xT OA gU).elim;rcases fQ k' b' bV with⟨j',b0',Br,rC,_⟩|⟨pI,xT,OA⟩;exact(mixed k' k b b0' j' Br rC gU h1 h2 h3 hi).elim;rw[yP k h1 h2]at hi;rw[yP k' pI xT]at gU;exact hh.inj k k' b b' i h3 OA hi gU;obtain⟨h1,h2⟩:=fP i b J;have hF0:F0 i b:=⟨h1,fun k c hc=>h2 _ _ (kO k c hc).2.2⟩;refine⟨(tT i b hF0).1,fun k c hc=>?_⟩;rcases fQ k c hc with⟨j,b0,rfl,hg,_⟩|⟨g1,g2,g3⟩;rw[CL];exact(tT i b hF0).2 j b0 hg;rw[yP k g1 g2];exact h2 k c g3
def a8{v11 v09:Type}(o:I v11)(k:v11->I v09):I v09:=match o with
 |some a=>k a|none=>none
variable{v11:Type}
variable{v09:Type}
def aL{o:I v11}{k:v11->I v09}{r:v09}(h:a8 o k=some r):∃a,o=some a/\k a=some r:=by rcases o with _|a;cases h;exact⟨a,rfl,h⟩
def cB{v11 v09 γ:Type}{o:I v11}{k:v11->I v09}{l:v11->v09->I γ}{r:γ}(h:a8 o (fun a=>a8 (k a) (l a))=some r): ∃a,o=some a/\∃b,k a=some b/\l a b=some r:=by obtain⟨a,h1,h⟩:=aL h;obtain⟨b,h2,h⟩:=aL h;exact⟨a,h1,b,h2,h⟩
def pR{v11 v09 γ δ:Type}{o:I v11}{k:v11->I v09}{l:v11->v09->I γ}{p:v11->v09->γ->I δ}{r:δ}(h:a8 o (fun a=>a8 (k a) (fun b=>a8 (l a b) (p a b)))=some r): ∃a,o=some a/\∃b,k a=some b/\∃c,l a b=some c/\p a b c=some r:=by obtain⟨a,h1,h⟩:=aL h;obtain⟨b,h2,c,h3,h⟩:=cB h;exact⟨a,h1,b,h2,c,h3,h⟩
def C1{v11 v09 γ δ ε:Type}{o:I v11}{k:v11->I v09}{l:v11->v09->I γ}{p:v11->v09->γ->I δ}{q:v11->v09->γ->δ->I ε}{r:ε}(h:a8 o (fun a=>a8 (k a) (fun b=>a8 (l a b) (fun c=>a8 (p a b c) (q a b c))))=some r): ∃a,o=some a/\∃b,k a=some b/\∃c,l a b=some c/\∃d,p a b c=some d/\q a b c d=some r:=by obtain⟨a,h1,h⟩:=aL h;obtain⟨b,h2,c,h3,d,h4,h⟩:=pR h;exact⟨a,h1,b,h2,c,h3,d,h4,h⟩
@[simp] def aM{v11 v09:Type}(a:v11)(k:v11->I v09):a8 (some a) k=k a:=rfl
@[simp] def lw{v11 v09:Type}(k:v11->I v09):a8 none k=none:=rfl
def Bx{c:BQ}{a b:I v09}{r:I v09}(h:c=true)(J:cond c a b=r):a=r:=by subst h;exact J
def By{c:BQ}{a b:I v09}{r:I v09}(h:c=false)(J:cond c a b=r):b=r:=by subst h;exact J
def aG{v09:Type}(p:Prop)[Decidable p](k:I v09):I v09:=if p then k else none
def cQ{p:Prop}[Decidable p]{k:I v09}{r:v09}(h:aG p k=some r):p/\k=some r:=by unfold aG at h;split at h;rename_i hp;exact⟨hp,h⟩;cases h
def aC{v11:Type}(l:Z v11)(i:Int):I v11:=if 0<=i/\i<(l.length:Int)then l[i.toNat]? else none
variable{l:Z v11}
variable{i:Int}
variable{x:v11}
def qyc(c:v11->Z U)(h:aC l i=some x):0<=i/\i<(l.length:Int)/\(l.map c)[i.toNat]? = some (c x):=by unfold aC at h;split at h;rename_i hp;exact⟨hp.1,hp.2,by simp[h]⟩;cases h
def Fj(h:aC l i=some x):0<=i/\i<(l.length:Int)/\l[i.toNat]? = some x:=by unfold aC at h;split at h;rename_i hp;exact⟨hp.1,hp.2,h⟩;cases h
def dP(i:Nat):aC l (i:Int)=l[i]?:=by unfold aC;by_cases h:i<l.length;simp[h];simp[h]
def cI(k:IntKind)(n:Int):Z U:=[.int k n]
def cS(s:Z O8):Z U:=[.str s]
def cL{v11:Type}(c:v11->Z U)(l:Z v11):Z U:=[.isl false (l.map c)]
def Ys(n:Nat)(k:IntKind)(x:Int):aF n (cI k x):=by simp[cI,aF,aP]
def z4s(n:Nat)(x:Z O8):aF n (cS x):=by simp[cS,aF,aP]
variable{c:v11->Z U}
def Cp(n:Nat)(h:∀x,aF n (c x))(x:Z v11):aF n (cL c x):=by simp[cL,aF,aP,uJ c h x]
variable{sz:Nat}
def aj(h:∀x,(c x).length=sz)(l:Z v11):((l.map c).all fun r=>Nat.beq r.length sz)=true:=by simp[h]
def C5(h:∀x,(c x).length=sz)(l:Z v11):((l.map c).flatten).length=l.length*sz:=by induction l with|nil=>simp|cons x l ih=>simp only[zQ,List.flatten_cons,zU,ih,h,zO,Nat.succ_mul];omega
def dh(c:v11->Z U)(l k:Z v11):((l++k).map c).flatten=(l.map c).flatten++(k.map c).flatten:=by simp
def z8f(h:∀x,(c x).length=sz)(l:Z v11):iZ (l.map c).flatten (0*sz) (l.length*sz)=some (l.map c).flatten:=by have:=C5 h l;simp only[iZ,Nat.zero_mul,Nat.zero_add,this,zF,if_true,List.drop_zero];rw[<-this,List.take_length]
def qm(h:∀x,(c x).length=sz)(l:Z v11)(i:Nat):((l.map c).flatten).drop (i*sz)=((l.drop i).map c).flatten:=by induction i generalizing l with|zero=>simp|succ i ih=>rcases l with _|⟨x,l⟩;simp;simp only[zQ,List.flatten_cons,List.drop_succ_cons,Nat.succ_mul];rw[Nat.add_comm,<-List.drop_drop,List.drop_append_of_le_length (by rw[h];exact zF _)];rw[show(c x).drop sz=[]from List.drop_eq_nil_of_le (by rw[h];exact zF _),List.nil_append,ih]
def qpj(h:∀x,(c x).length=sz)(l:Z v11)(i:Nat):((l.map c).flatten).take (i*sz)=((l.take i).map c).flatten:=by induction i generalizing l with|zero=>simp|succ i ih=>rcases l with _|⟨x,l⟩;simp;simp only[zQ,List.flatten_cons,List.take_succ_cons,Nat.succ_mul];rw[Nat.add_comm,List.take_append,h,zW (by rw[h];omega),Nat.add_sub_cancel_left,ih]
def qju(h:∀x,(c x).length=sz)(l:Z v11):bR sz l.length (l.map c).flatten=l.map c:=by induction l with|nil=>rfl|cons x l ih=>simp only[zQ,List.flatten_cons,zO,bR];rw[List.take_append_of_le_length (by rw[h];exact zF _),zW (by rw[h];exact zF _),List.drop_append_of_le_length (by rw[h];exact zF _),List.drop_eq_nil_of_le (by rw[h];exact zF _),List.nil_append,ih]
def z0p(h:∀x,(c x).length=sz)(hx:aC l i=some x):iZ (l.map c).flatten (0*sz+i.toNat*sz) sz=some (c x):=by
 obtain⟨h1,h2,h3⟩:=Fj hx;have aH:i.toNat<l.length:=by omega
 have hl:=C5 h l;have pG:i.toNat*sz+sz<=l.length*sz:=by rw[<-Nat.succ_mul];exact Nat.mul_le_mul_right _ (by omega)
 simp only[iZ,Nat.zero_mul,Nat.zero_add,hl,pG,if_true,qm h,zA];have hd:l.drop i.toNat=x::l.drop (i.toNat+1):=by rw[List.drop_eq_getElem_cons aH];rw[List.getElem?_eq_getElem aH]at h3;rw[Option.some.inj h3]
 rw[hd];simp only[zQ,List.flatten_cons];rw[List.take_append_of_le_length (by rw[h];exact zF _),zW (by rw[h];exact zF _)]
def UO(h:∀x,(c x).length=sz)(hz:0<sz)(hx:aC l i=some x):((l.map c).flatten=[])=False:=by obtain⟨h1,h2,h3⟩:=Fj hx;have hl:=C5 h l;simp only[eq_iff_iff,iff_false];intro e;rw[e]at hl;have:0<l.length*sz:=Nat.mul_pos (by omega) hz;simp at hl;omega
def z8r(h:∀x,(c x).length=1){u:v11->U}(hu:∀x,c x=[u x])(hx:aC l i=some x):nth (l.map c).flatten (0*1+i.toNat*1)=some (u x):=by have:=z0p h hx;obtain⟨h1,h2⟩:=QJ this;rw[hu]at h2;rw[i9];have h3:=congrArg (fun l:Z U=>l[0]?) h2;simp only[List.getElem?_take,List.getElem?_drop]at h3;simpa using h3.symm
def v8{v11:Type}(l:Z v11)(lo hi:Int):I (Z v11):=if 0<=lo/\lo<=hi/\hi<=(l.length:Int)then some ((l.take hi.toNat).drop lo.toNat)else none
def qtg(c:v11->Z U)(l:Z v11)(a b:Nat):o8 (l.map c) a b=((l.take b).drop a).map c:=by simp[o8,List.map_drop,List.map_take]
variable{k:Z v11}
variable{lo:Int}
variable{hi:Int}
def qp4(h:v8 l lo hi=some k):0<=lo/\lo<=hi/\hi<=(l.length:Int)/\(l.take hi.toNat).drop lo.toNat=k:=by unfold v8 at h;split at h;rename_i hp;exact⟨hp.1,hp.2.1,hp.2.2,Option.some.inj h⟩;cases h
def cr{n m:Nat}{k:IntKind}(h1:0<=hi)(h2:hi<=(n:Int)):fD m n none (some (.int k hi)) none=some (0,hi.toNat,n):=by have:oM hi (n+1)=true:=JN ⟨by omega,by omega⟩;simp[fD,iA,this]
def cq{n:Nat}{k:IntKind}(h1:0<=lo)(h2:lo<=(n:Int)):fD n n (some (.int k lo)) none none=some (lo.toNat,n,n):=by have:oM lo (n+1)=true:=JN ⟨by omega,by omega⟩;simp[fD,iA,this]
def PO(n0:Nat)(E:Z U->Sg->Prop)(Q:Exit->Z U->Sg->Prop):Exit->Z U->Sg->Prop
 |.normal,tm,X=>∃tm' X',E tm' X'/\n0<=X'.nx/\Gh n0 tm X tm' X'|e,tm,X=>Q e tm X
variable{C:PG}
variable{n0:Nat}
variable{Q:Exit->Z U->Sg->Prop}
variable{tm:Z U}
variable{X:Sg}
def fK{c:Code}(E:Z U->Sg->Prop)(out:∀tm X,E tm X->Q .normal tm X)(h:WPU C n0 c tm X (PO n0 E Q)):WPU C n0 c tm X Q:=by
 refine WPU.after h ?_;intro e pj dK hn h;cases e with
 |normal=>obtain⟨hX,aS,h1,h2,h3⟩:=h;exact⟨hX,aS,h2,h3,out _ _ h1⟩
 |_=>exact⟨pj,dK,hn,Gh.refl _ _ _,h⟩
def WPU.loopK{c:Code}{id:Nat}(v07:Nat->Z U->Sg->Prop)(E:Z U->Sg->Prop)(n:Nat)(h₀:v07 n tm X)
  (out:∀tm X,E tm X->Q .normal tm X)
  (round:∀n tm X,v07 n tm X->WPU C n0 c tm X (BT (fun tm' X'=>∃n' hX aS,n'<n/\v07 n' hX aS/\n0<=aS.nx/\Gh n0 tm' X' hX aS) (xB id (PO n0 E Q)))):WPU C n0 (.block id (.loop c)) tm X Q:=by refine fK E out ?_;apply aR;exact WPU.loopG v07 n h₀ round
variable{X':Sg}
def aV.ghost{P:Uz}{f:FuncId}{args args':Z U}{R:U->Sg->Prop}(hg:Gh X.nx args X args' X')(hn:X.nx<=X'.nx)(h:aV P f args' X' R):aV P f args X R:=fun F x vs m w cargs hx hh fP he eG cJ=>by
 obtain⟨y,g1,g2,g3,g4,g5,g6⟩:=hg F x vs hx hh fP he;have aO:=g1 m w eG;refine(h F y vs m w cargs g2 g3 g4 g5 aO.fits (cJ.ext (aJ.refl _ _) aO.nx)).mono ?_;rintro e w₁ ⟨z,aI,u,v,cv,h1,h2,h3,h4,h5,h6,h7,h8,h9⟩;refine⟨z,aI,u,v,cv,h1,h2,aO.trans h3,h4,h5,h6,h7,?_,?_⟩;have g6':Ke x.X.nx x y:=by rw[hx];exact g6
 exact g6'.trans (h8.le (by rw[hx,g2];exact hn));rw[hx];exact Nat.le_trans hn (by rw[<-g2];exact h9)
variable{tm':Z U}
def WPU.eqv{c:Code}(ht:tm=tm')(hs:X=X')(h:WPU C n0 c tm' X' Q):WPU C n0 c tm X Q:=by subst ht;subst hs;exact h
def Gh.eqv(ht:tm=tm')(hs:X=X'):Gh n0 tm X tm' X':=by subst ht;subst hs;exact Gh.refl _ _ _
mutual
inductive Wk:U->U->Prop
 |refl (u:U):Wk u u
 |nil (t:Bool):Wk .nils (.isl t [])
 |full (l:List (List U)):Wk (.isl true l) (.isl false l)
 |agg {l l':List U} (h:o3 l l'):Wk (.agg l) (.agg l')
 |tup {l l':List U} (h:o3 l l'):Wk (.tup l) (.tup l')
inductive o3:List U->List U->Prop
 |nil:o3 [] []
 |cons {u u':U} {l l':List U} (h:Wk u u') (h':o3 l l'):o3 (u::l) (u'::l')
end
def o3.refl:∀l,o3 l l
 |[]=>.nil|u::l=>.cons (.refl u) (o3.refl l)
def Wk.okC{u u':U}(h:Wk u u'):Vx.okC u'=Vx.okC u:=by cases h<;>rfl
def o3.len:∀{l l':Z U},o3 l l'->l'.length=l.length
 |_,_,.nil=>rfl|_,_,.cons _ h=>by simp[h.len]
def o3.okL:∀{l l':Z U},o3 l l'->Vx.okL l'=Vx.okL l
 |_,_,.nil=>rfl|_,_,.cons h h'=>by simp[Vx.okL,h.okC,h'.okL]
mutual
def Wk.rel{x:Cx}{u u':U}{v:A}(h:Wk u u')(hr:aB x u v):aB x u' v:=by
 cases h with
 |refl=>exact hr|nil t=>simp only[aB]at hr ⊢;exact .inl ⟨trivial,.inl hr⟩
 |full l=>simp only[aB]at hr ⊢;rcases hr with hr |⟨i,off,c,h1,h2,h3⟩;exact .inl hr;exact .inr ⟨i,off,c,h1,by simp,h3⟩
 |agg h=>simp only[aB]at hr ⊢;obtain⟨vs,h1,h2,h3,h4⟩:=hr;exact⟨vs,h1,o3.rel h h2,by rw[h.len,h3],by rw[h.okL,h4]⟩
 |tup h=>simp only[aB]at hr ⊢;obtain⟨vs,h1,h2,h3⟩:=hr;exact⟨vs,h1,o3.rel h h2,by rw[h.len,h3]⟩
def o3.rel{x:Cx}{l l':Z U}{vs:Z A}(h:o3 l l')(hr:c8 x l vs):c8 x l' vs:=by rcases h with _|⟨h,h'⟩;exact hr;rcases vs with _|⟨v,vs⟩;simp[c8]at hr;simp only[c8]at hr ⊢;exact⟨Wk.rel h hr.1,o3.rel h' hr.2⟩
end
def Gh.wk(h:o3 tm tm'):Gh n0 tm X tm' X:=fun F x tv hx hr hf he=>⟨x,fun m w hf=>bQ.refl hf,hx,hr,hf,⟨h.rel he.1,by rw[h.len];exact he.2⟩,Ke.refl _ _⟩
def Gh.fz{h':Z (Nat×B)}(K:Nat)(b:B)(sz:Nat)(hg:gt X.h K=some b)(hb:∀es cl,b≠.map es cl)(ht:iX K b sz tm=tm')(hh:fzH K b sz X.h=h'):Gh n0 tm X tm' ⟨h',X.nx⟩:=by subst ht;subst hh;exact Gh.freeze sz hg hb
def LN(h:∀x,(c x).length=sz)(l:Z v11)(K s:Nat)(e:O)(st:Nat):fz K (.vec (l.map c).flatten e sz st) s (.vl K st 0 l.length)=.isl false (l.map c):=by have hl:=C5 h l;have hc:=qju h l;simp[fz,beq_eq,hl,hc]
def qt7(n:Nat):∀(a b:Z U),aF n a->aF n b->aF n (a++b)
 |[],b,_,h=>h|u::a,b,h,h'=>by simp only[aF]at h;simp only[List.cons_append,aF];exact⟨h.1,qt7 n a b h.2 h'⟩
def Fp{v11:Type}{c:v11->Z U}(n:Nat)(h:∀x,aF n (c x)):∀l:Z v11,aF n (l.map c).flatten
 |[]=>by simp[aF]
 |x::l=>by simp only[zQ,List.flatten_cons];exact qt7 n _ _ (h x) (Fp n h l)
def RU.fcall{T:Tb}{aA r:Z Oper}{o:Oper}{dK:Sg}{K:Z U->Sg->Prop}{f:FuncId}{args args':Z U}{u:U}(hw:cA aA tm o=some true)(hc:jG T tm o.op=some (f,args))(hg:Gh X.nx args X args' dK)(hn:X.nx<=dK.nx)(jT:aV C.prog f args' dK (fun u' X'=>u'=u/\X'=dK))
  (h:RU C T aA r (dX tm o.dst u) dK K):RU C T aA (o::r) tm X K:=RU.call hw hc (aV.ghost hg hn jT) (fun u' X' ⟨h1,h2⟩=>by subst h1;subst h2;exact h)
def Yr(c:v11->Z U)(kk:IntKind)(h:v8 l 0 hi=some k):fD l.length l.length none (some (.int kk hi)) none=some (0,hi.toNat,l.length)/\o8 (l.map c) 0 hi.toNat=k.map c:=by obtain⟨h1,h2,h3,h4⟩:=qp4 h;exact⟨cr h2 h3,by rw[qtg,<-h4];rfl⟩
def Bw(c:v11->Z U)(kk:IntKind)(h:v8 l lo (l.length:Int)=some k):fD l.length l.length (some (.int kk lo)) none none=some (lo.toNat,l.length,l.length)/\o8 (l.map c) lo.toNat l.length=k.map c:=by obtain⟨h1,h2,h3,h4⟩:=qp4 h;exact⟨cq h1 h2,by rw[qtg,<-h4];simp⟩
def mM:Z (Nat×U)->Nat->I U
 |[],_=>none|(j,u)::l,i=>cond (Nat.beq j i) (some u) (mM l i)
def Bd(l:Z (Nat×U)):Nat->Nat->Z U
 |0,_=>[]|n+1,i=>((mM l i).getD .junk)::Bd l n (i+1)
def fr(n:Nat)(l:Z (Nat×U)):Z U:=Bd l n 0
def qy1(l:Z (Nat×U)):∀n i,(Bd l n i).length=n
 |0,_=>rfl|n+1,i=>by simp[Bd,qy1 l n]
def qy0(l:Z (Nat×U)):∀n i k,k<n->(Bd l n i)[k]? = some ((mM l (i+k)).getD .junk)
 |0,_,_,h=>by omega
 |n+1,i,0,_=>by simp[Bd]
 |n+1,i,k+1,h=>by simp only[Bd,zH];rw[qy0 l n (i+1) k (by omega),show i+1+k=i+(k+1) by omega]
def E7(n:Nat)(l:Z (Nat×U)):(fr n l).length=n:=qy1 l n 0
variable{k:Nat}
def LX(n:Nat)(l:Z (Nat×U))(h:k<n):(fr n l)[k]? = some ((mM l k).getD .junk):=by have:=qy0 l n 0 k h;simpa[fr]using this
variable{n:Nat}
variable{l:Z (Nat×U)}
def z58{t:Z U}(hl:t.length=n)(h:∀k,k<n->t[k]? = some ((mM l k).getD .junk)):t=fr n l:=by apply List.ext_getElem?;intro k;by_cases hk:k<n;rw[h k hk,LX n l hk];rw[List.getElem?_eq_none (by omega),List.getElem?_eq_none (by rw[E7];omega)]
def bO(n:Nat)(l:Z (Nat×U)):Jp->I U
 |.tmp t=>cond (Nat.blt t n) (mM l t) none|.const v=>iB v
 |.func f=>some (.fn (.func f) [] [])|.global _=>none
variable{o:Jp}
variable{u:U}
def dH(h:bO n l o=some u):bS (fr n l) o=some u:=by
 cases o with
 |tmp t=>simp only[bO]at h;rcases hb:Nat.blt t n with _|_;rw[hb]at h;cases h;rw[hb]at h;simp only[zC]at h;simp only[bS,i9];have ht:t<n:=zY hb;rw[LX n l ht,h];rfl
 |const v=>exact h|func f=>exact h
 |global g=>cases h
def L4(n:Nat)(l:Z (Nat×U)):Z Jp->I (Z U)
 |[]=>some []|x::r=>match bO n l x with
  |some v=>(match L4 n l r with
   |some q=>some (v::q)|none=>none)
  |none=>none
def Lp{n:Nat}{l:Z (Nat×U)}:∀{os:Z Jp}{us:Z U},L4 n l os=some us->lP (fr n l) os=some us
 |[],us,h=>h|o::os,us,h=>by simp only[L4]at h;rcases h1:bO n l o with _|v;simp[h1]at h;rcases h2:L4 n l os with _|q;simp[h1,h2]at h;simp only[h1,h2]at h;simp only[lP,dH h1,Lp h2];exact h
def AB(n:Nat)(l:Z (Nat×U)):Z (Nat×Jp)->I (Z (Nat×U))
 |[]=>some []|(i,x)::r=>match bO n l x with
  |some v=>(match AB n l r with
   |some q=>some ((i,v)::q)|none=>none)
  |none=>none
def Yq{n:Nat}{l:Z (Nat×U)}:∀{os:Z (Nat×Jp)}{us:Z (Nat×U)},AB n l os=some us->wZ (fr n l) os=some us
 |[],us,h=>h|(i,o)::os,us,h=>by simp only[AB]at h;rcases h1:bO n l o with _|v;simp[h1]at h;rcases h2:AB n l os with _|q;simp[h1,h2]at h;simp only[h1,h2]at h;simp only[wZ,dH h1,Yq h2];exact h
def U5(l:Z (Nat×U)):I Tmp->U->Z (Nat×U)
 |none,_=>l|some d,u=>(d,u)::l
def lu(n:Nat):I Tmp->BQ
 |none=>true|some d=>Nat.blt d n
def sL{d:I Tmp}(u:U)(hd:lu n d=true):dX (fr n l) d u=fr n (U5 l d u):=by
 rcases d with _|d;rfl;have aH:d<n:=zY hd;refine z58 (by simp[dX,E7]) fun k hk=>?_
 simp only[dX,List.getElem?_set,E7,U5,mM,beq_eq];by_cases e:d=k;subst e;simp[aH];simp only[e,if_false,yB,zD];exact LX n l hk
section
variable{P:Uz}{T:Tb}{aA r:Z Oper}{o:Oper}{n:Nat}{l:Z (Nat×U)}{X X':Sg}{K:Z U->Sg->Prop}{u:U}
variable{C:PG}
variable{d:Tmp}
def RS.op(hw:cA aA (fr n l) o=some true)(h:bF T X (fr n l) o.op=some (u,X'))(he:o.dst=some d)(hd:Nat.blt d n=true)(hk:RU C T aA r (fr n ((d,u)::l)) X' K):RU C T aA (o::r) (fr n l) X K :=
 .inl ⟨hw,u,X',h,by rw[he,sL (d:=some d) u hd];exact hk⟩
def RS.opn(hw:cA aA (fr n l) o=some true)(h:bF T X (fr n l) o.op=some (u,X'))(he:o.dst=none)(hk:RU C T aA r (fr n l) X' K):RU C T aA (o::r) (fr n l) X K :=
 .inl ⟨hw,u,X',h,by rw[he];exact hk⟩
def RS.no(hw:cA aA (fr n l) o=some false)(he:o.dst=some d)(hd:Nat.blt d n=true)(hk:RU C T aA r (fr n ((d,.tup [])::l)) X K):RU C T aA (o::r) (fr n l) X K :=
 .inr (.inr (.inl ⟨hw,by rw[he,sL (d:=some d) _ hd];exact hk⟩))
variable{b:BQ}
def RS.nilq{t e ty:O}{xo yo:Jp}{rs:Z (Z U)}(hw:cA aA (fr n l) o=some true)(ho:o.op=.binOp .eql t xo yo ty)(hd:T.und t=some (.slice e))(hx:bO n l xo=some (.isl b rs))(hy:bO n l yo=some .nils)(he:o.dst=some d)(bB:Nat.blt d n=true)(hk:∀z:BQ,(z=true->rs=[])->RU C T aA r (fr n ((d,.bool z)::l)) X K):RU C T aA (o::r) (fr n l) X K :=
 .inr (.inr (.inr (.inl ⟨hw,t,xo,yo,ty,e,b,rs,ho,hd,dH hx,dH hy,fun z hz=>by rw[he,sL (d:=some d) _ bB];exact hk z hz⟩)))
def RS.step{u:U}{X':Sg}(hw:cA aA (fr n l) o=some true)(hs:eT C X (fr n l) o (fun u' dK=>u'=u/\dK=X'))(he:o.dst=some d)(hd:Nat.blt d n=true)(hk:RU C T aA r (fr n ((d,u)::l)) X' K):RU C T aA (o::r) (fr n l) X K :=
 .inr (.inr (.inr (.inr ⟨hw,_,hs,fun u' dK h=>by rw[h.1,h.2,he,sL (d:=some d) _ hd];exact hk⟩)))
def RS.done(h:K (fr n l) X):RU C T aA [] (fr n l) X K:=h
def RS.call{f:FuncId}{args:Z U}(hw:cA aA (fr n l) o=some true)(hc:jG T (fr n l) o.op=some (f,args))(jT:aV C.prog f args X (fun u' X'=>u'=u/\X'=X))(he:o.dst=some d)(hd:Nat.blt d n=true)(hk:RU C T aA r (fr n ((d,u)::l)) X K):RU C T aA (o::r) (fr n l) X K :=
 RU.pcall hw hc jT (by rw[he,sL (d:=some d) u hd];exact hk)
def RS.fcall{C:PG}{f:FuncId}{args args':Z U}{dK:Sg}(hw:cA aA (fr n l) o=some true)(hc:jG T (fr n l) o.op=some (f,args))(hg:Gh X.nx args X args' dK)(hn:X.nx<=dK.nx)(jT:aV C.prog f args' dK (fun u' X'=>u'=u/\X'=dK)){d:Tmp}(he:o.dst=some d)(hd:Nat.blt d n=true)(hk:RU C T aA r (fr n ((d,u)::l)) dK K):RU C T aA (o::r) (fr n l) X K :=
 RU.fcall hw hc hg hn jT (by rw[he,sL (d:=some d) u hd];exact hk)
variable{j:Nat}
variable{want:BQ}
def ue(hg:o.guard=some (j,want))(hj:yE aA j=some d)(hl:bO n l (.tmp d)=some (.bool b))(hb:b=want):cA aA (fr n l) o=some true:=by have:=dH hl;simp only[bS]at this;simp[cA,hg,hj,this,hb]
def Xj(hg:o.guard=some (j,want))(hj:yE aA j=some d)(hl:bO n l (.tmp d)=some (.bool b))(hb:b= !want):cA aA (fr n l) o=some false:=by have:=dH hl;simp only[bS]at this;cases want<;>simp[cA,hg,hj,this,hb]
def JF{q:Z U}(hg:o.guard=some (j,want))(hj:yE aA j=some d)(hl:bO n l (.tmp d)=some (.tup q)):cA aA (fr n l) o=some false:=by have:=dH hl;simp only[bS]at this;simp[cA,hg,hj,this]
end
section
variable{P:Uz}{T:Tb}{aA r:Z Oper}{o:Oper}{n:Nat}{l:Z (Nat×U)}{X X':Sg}{aY:Z RK}{K:Z RK->Z U->Sg->Prop}{u:U}
variable{d:Tmp}
def RD.look(hw:cA aA (fr n l) o=some true)(h:bF T X (fr n l) o.op=some (u,X))(he:o.dst=some d)(hd:Nat.blt d n=true)(hk:RH P T aA r (fr n ((d,u)::l)) X ((1,⟨fr n l,o,u,false,false,X,X⟩)::aY) K):RH P T aA (o::r) (fr n l) X aY K :=
 .inl ⟨hw,u,h,by rw[he,sL (d:=some d) u hd];exact hk⟩
def RD.act(hw:cA aA (fr n l) o=some true)(h:bF T X (fr n l) o.op=some (u,X'))(he:o.dst=some d)(hd:Nat.blt d n=true)(hk:RH P T aA r (fr n ((d,u)::l)) X' ((3,⟨fr n l,o,u,true,true,X,X'⟩)::aY) K):RH P T aA (o::r) (fr n l) X aY K :=
 .inr (.inl ⟨hw,u,X',h,by rw[he,sL (d:=some d) u hd];exact hk⟩)
def Ip(hw:cA aA (fr n l) o=some true)(h:bF T X (fr n l) o.op=some (u,X'))(he:o.dst=none)(hk:RH P T aA r (fr n l) X' ((3,⟨fr n l,o,u,true,true,X,X'⟩)::aY) K):RH P T aA (o::r) (fr n l) X aY K :=
 .inr (.inl ⟨hw,u,X',h,by rw[he];exact hk⟩)
def RD.no(hw:cA aA (fr n l) o=some false)(he:o.dst=some d)(hd:Nat.blt d n=true)(hk:RH P T aA r (fr n ((d,.tup [])::l)) X ((0,⟨fr n l,o,.tup [],false,false,X,X⟩)::aY) K):RH P T aA (o::r) (fr n l) X aY K :=
 .inr (.inr (.inr (.inr (.inl ⟨hw,by rw[he,sL (d:=some d) _ hd];exact hk⟩))))
def RD.free{f:FuncId}{args:Z U}(hw:cA aA (fr n l) o=some true)(hc:jG T (fr n l) o.op=some (f,args))(jT:∀s,aV P f args s (fun u' X'=>u'=u/\X'=s))(he:o.dst=some d)(hd:Nat.blt d n=true)(hk:RH P T aA r (fr n ((d,u)::l)) X ((0,⟨fr n l,o,u,false,false,X,X⟩)::aY) K):RH P T aA (o::r) (fr n l) X aY K :=
 .inr (.inr (.inr (.inr (.inr (.inl ⟨hw,u,.inl ⟨f,args,hc,jT⟩,by rw[he,sL (d:=some d) u hd];exact hk⟩)))))
def RD.freeO(hw:cA aA (fr n l) o=some true)(hf:sK P T (fr n l) o.op u)(he:o.dst=some d)(hd:Nat.blt d n=true)(hk:RH P T aA r (fr n ((d,u)::l)) X ((0,⟨fr n l,o,u,false,false,X,X⟩)::aY) K):RH P T aA (o::r) (fr n l) X aY K :=
 .inr (.inr (.inr (.inr (.inr (.inl ⟨hw,u,hf,by rw[he,sL (d:=some d) u hd];exact hk⟩)))))
def eT.fz{C:PG}(hT:iK C.prog T){u1:U}{s1 X':Sg}(h:bF T X (fr n l) o.op=some (u1,s1))(hg:Gh s1.nx [u1] s1 [u] X')(hn:s1.nx<=X'.nx)(he:o.dst=some d)(hd:Nat.blt d n=true):eT C X (fr n l) o (fun u' dK=>u'=u/\dK=X'):=
 fun F x tv m w a next Q eW st hG hk ro eR=>vE (PZ h) (St.opfz hT st o (by rw[eW];exact h) he (by rw[E7];rwa [Nat.blt_eq]at hd) hg hn fun y dB aI w₁ b7 e1 bG aO fT iE lA=>hk u y dB aI w₁ b7 ⟨rfl,e1⟩ bG aO fT iE lA)
def RD.call{f:FuncId}{args:Z U}(hw:cA aA (fr n l) o=some true)(hc:jG T (fr n l) o.op=some (f,args))(jT:aV P f args X (fun u' X'=>u'=u/\X'=X)){d:Tmp}(he:o.dst=some d)(hd:Nat.blt d n=true)(hk:RH P T aA r (fr n ((d,u)::l)) X ((2,⟨fr n l,o,u,true,false,X,X⟩)::aY) K):RH P T aA (o::r) (fr n l) X aY K :=
 RH.call hw hc jT (by rw[he,sL (d:=some d) u hd];exact hk)
def bN(h:K aY (fr n l) X):RH P T aA [] (fr n l) X aY K:=h
end
def IQ(l:Z (Nat×U)):Z (Nat×U)->Prop
 |[]=>True|(i,u)::r=>mM l i=some u/\IQ l r
def qqy{l:Z (Nat×U)}:∀{r:Z (Nat×U)},IQ l r->∀i u,mM r i=some u->mM l i=some u
 |[],_,i,u,h=>by cases h
 |(j,v)::r,hs,i,u,h=>by simp only[IQ]at hs;simp only[mM,beq_eq]at h;by_cases e:j=i;subst e;simp at h;subst h;exact hs.1;simp only[e,yB,zD]at h;exact qqy hs.2 i u h
def eu{x:Cx}{tv:Z A}(hl:tv.length=n)(h:∀i u,i<n->mM l i=some u->∃v,tv[i]? = some v/\aB x u v):aX x (fr n l) tv:=by
 refine aX.mk' (by rw[E7,hl]) fun i u hi=>?_;have aH:i<n:=by have:=(zG.1 hi).1;rwa [E7]at this
 rw[LX n l aH]at hi;cases hk:mM l i with
 |none=>rw[hk]at hi;simp at hi;subst hi;exact⟨tv[i],List.getElem?_eq_getElem (by omega),by simp[aB]⟩|some w=>rw[hk]at hi;simp at hi;subst hi;exact h i w aH hk
def qqn{x:Cx}{tv:Z A}(he:aX x (fr n l) tv){i:Nat}(hi:i<n)(h:mM l i=some u):∃v,tv[i]? = some v/\aB x u v :=
 he.get (by rw[LX n l hi,h];rfl)
variable{n0:Nat}
variable{l':Z (Nat×U)}
variable{X:Sg}
def Gh.sub(h:IQ l l'):Gh n0 (fr n l) X (fr n l') X:=fun F x tv hx hr hf he=>
 ⟨x,fun m w hf=>bQ.refl hf,hx,hr,hf,eu (by rw[<-he.2,E7]) (fun i u hi hl=>qqn he hi (qqy h i u hl)),Ke.refl _ _⟩
def N9:Nat->Z U->Z (Nat×U)
 |_,[]=>[]|i,u::l=>(i,u)::N9 (i+1) l
def qpw:∀(l:Z U)(i k:Nat)(u:U),mM (N9 i l) k=some u->i<=k/\l[k-i]? = some u
 |[],i,k,u,h=>by cases h
 |v::l,i,k,u,h=>by simp only[N9,mM,beq_eq]at h;by_cases e:i=k;subst e;simp at h;subst h;simp;simp only[e,yB,zD]at h;obtain⟨h1,h2⟩:=qpw l (i+1) k u h;refine⟨by omega,?_⟩;rw[show k-i=(k-(i+1))+1 by omega];simpa using h2
def quk:∀(n:Nat)(l:Z U)(k:Nat)(u:U),l[k]? = some u->(DU n l)[k]? = some u
 |0,l,k,u,h=>h|n+1,[],k,u,h=>by simp at h
 |n+1,v::l,0,u,h=>by simpa[DU]using h
 |n+1,v::l,k+1,u,h=>by simp only[DU,zH]at*;exact quk n l k u h
def dc:∀(n:Nat)(l:Z U),l.length<=n->(DU n l).length=n
 |0,l,h=>by simp[DU];exact List.eq_nil_of_length_eq_zero (by omega)
 |n+1,[],h=>by simp[DU,dc n [] (by simp)]
 |n+1,v::l,h=>by simp[DU,dc n l (by simpa using h)]
def Da{args:Z U}(h:args.length<=n):Gh n0 (DU n args) X (fr n (N9 0 args)) X:=fun F x tv hx hr hf he=>
 ⟨x,fun m w hf=>bQ.refl hf,hx,hr,hf,eu (by rw[<-he.2,dc n args h]) (fun i u hi hl=>by obtain⟨_,h2⟩:=qpw args 0 i u hl;exact he.get (quk n args i u (by simpa using h2))),Ke.refl _ _⟩
def BelS(n:Nat):Z (Nat×U)->Prop
 |[]=>True|(_,u)::l=>aP n u/\BelS n l
def qos{n:Nat}:∀{l:Z (Nat×U)},BelS n l->∀i u,mM l i=some u->aP n u
 |[],_,i,u,h=>by cases h
 |(j,v)::l,hb,i,u,h=>by simp only[BelS]at hb;simp only[mM,beq_eq]at h;by_cases e:j=i;subst e;simp at h;subst h;exact hb.1;simp only[e,yB,zD]at h;exact qos hb.2 i u h
def Ml{n1:Nat}(h:BelS n1 l):aF n1 (fr n l):=by
 rw[AI];intro u hu;obtain⟨i,hi,rfl⟩:=List.getElem_of_mem hu;have aH:i<n:=by rwa [E7]at hi
 have:=LX n l aH;rw[List.getElem?_eq_getElem hi]at this;simp only[zA]at this;rw[this];rcases hk:mM l i with _|w;simp[aP];exact qos h i w hk
def Gh.toS{n1:Nat}{X':Sg}(ht:IQ l l')(hs:(⟨Vx.cut n1 X.h,n1⟩:Sg)=X')(h1:n0<=n1)(h2:n1<=X.nx)(hb:BelS n1 l')(hh:DX n1 X'.h):Gh n0 (fr n l) X (fr n l') X':=by subst hs;exact(Gh.sub ht).trans (Gh.cut h1 h2 (Ml hb) hh)
def L0{X':Sg}(ht:IQ l l')(hs:X=X'):Gh n0 (fr n l) X (fr n l') X':=by subst hs;exact Gh.sub ht
def fzS(K:Nat)(b:B)(sz:Nat):Z (Nat×U)->Z (Nat×U)
 |[]=>[]|(i,u)::l=>(i,fz K b sz u)::fzS K b sz l
def qu2(K:Nat)(b:B)(sz:Nat):∀(l:Z (Nat×U))(i:Nat),mM (fzS K b sz l) i=(mM l i).map (fz K b sz)
 |[],i=>rfl|(j,u)::l,i=>by simp only[fzS,mM,beq_eq,qu2 K b sz l i];by_cases e:j=i<;>simp[e]
def Bb(K:Nat)(b:B)(sz n:Nat)(l:Z (Nat×U)):iX K b sz (fr n l)=fr n (fzS K b sz l):=by
 refine z58 (by rw[WR,E7]) fun k hk=>?_;have hm:∀(t:Z U)(k:Nat),(iX K b sz t)[k]? = (t[k]?).map (fz K b sz):=by
  intro t;induction t with
  |nil=>intro k;simp[iX]|cons u t ih=>intro k;cases k<;>simp[iX,ih]
 rw[hm,LX n l hk,qu2];rcases mM l k with _|w;simp[Ew];rfl
def Gh.fzS{h':Z (Nat×B)}(K:Nat)(b:B)(sz:Nat)(hg:gt X.h K=some b)(hb:∀es cl,b≠.map es cl)(ht:Vx.fzS K b sz l=l')(hh:fzH K b sz X.h=h'):Gh n0 (fr n l) X (fr n l') ⟨h',X.nx⟩:=by subst ht;subst hh;rw[<-Bb];exact Gh.freeze sz hg hb
inductive Il:List (Nat×U)->List (Nat×U)->Prop
 |nil:Il [] []
 |cons {i:Nat} {u u':U} {l l':List (Nat×U)} (h:Wk u u') (h':Il l l'):Il ((i,u)::l) ((i,u')::l')
def Il.look:∀{l l':Z (Nat×U)},Il l l'->∀i u',mM l' i=some u'->∃u,mM l i=some u/\Wk u u'
 |_,_,.nil,i,u',h=>by cases h
 |_,_,.cons (i:=j) h h',i,u',hu=>by simp only[mM,beq_eq]at hu ⊢;by_cases e:j=i;subst e;simp at hu;subst hu;exact⟨_,by simp,h⟩;simp only[e,yB,zD]at hu ⊢;exact h'.look i u' hu
def Gh.wkS(h:Il l l'):Gh n0 (fr n l) X (fr n l') X:=fun F x tv hx hr hf he=>
 ⟨x,fun m w hf=>bQ.refl hf,hx,hr,hf,eu (by rw[<-he.2,E7]) (fun i u hi hl=>by obtain⟨w,h1,h2⟩:=h.look i u hl;obtain⟨v,h3,h4⟩:=qqn he hi h1;exact⟨v,h3,h2.rel h4⟩),Ke.refl _ _⟩
def Gh.nilS(i:Nat)(e:O)(sz:Nat)(eA:0<sz)(h0:n0<=X.nx)(hi:bO n l (.tmp i)=some .nils)(hd:lu n (some i)=true):Gh n0 (fr n l) X (fr n ((i,.vl X.nx 0 0 0)::l)) (newU X (.vec [] e sz 0)):=by
 have h1:=dH hi;have h2:=Gh.nilvec (n0:=n0) (X:=X) i e sz eA h0 (tm:=fr n l) h1;have h3:=sL (n:=n) (l:=l) (d:=some i) (.vl X.nx 0 0 0) hd;simp only[dX,U5]at h3
 rwa [h3]at h2
variable{c:Jp}
variable{t:BQ}
def dS{C:PG}{Q:Exit->Z U->Sg->Prop}{p q:Code}(hc:bO n l c=some (.bool t))(h1:t=true->WPU C n0 p (fr n l) X Q)(h2:t=false->WPU C n0 q (fr n l) X Q):WPU C n0 (.cond c p q) (fr n l) X Q:=WPU.cond (dH hc) h1 h2
variable{T:Tb}
variable{us:Z U}
def fH{t:Tmp}{rs:Z ResultVar}(h:bO n l (.tmp t)=some u)(hr:jY T X (fr n l) rs=some us):jY T X (fr n l) (.tmp t::rs)=some (u::us):=by have:=dH h;simp only[bS]at this;simp[jY,this,hr]
def fW:jY T X (fr n l) []=some []:=rfl
variable{t:O}
def wS{a:Tmp}{rs:Z ResultVar}(h:bF T X (fr n l) (.load t (.tmp a))=some (u,X))(hr:jY T X (fr n l) rs=some us):jY T X (fr n l) (.cell a t::rs)=some (u::us):=by
 have:oY T X (fr n l) (.load t (.tmp a))=some u:=by have hp:gW T X (fr n l) (.load t (.tmp a))=none:=rfl;have he:nS T X (fr n l) (.load t (.tmp a))=none:=rfl;unfold bF at h;rw[hp]at h;simp only at h;rcases hr:oY T X (fr n l) (.load t (.tmp a))with _|v;rw[hr,he]at h;cases h;rw[hr]at h;simp at h;rw[h]
 simp[jY,this,hr]
section
variable{T:Tb}{X X':Sg}{n:Nat}{l:Z (Nat×U)}{u v w:U}
def tJ{op:Op}(h:gW T X (fr n l) op=some u):bF T X (fr n l) op=some (u,X):=by simp[bF,h]
def OQ{op:Op}(h0:gW T X (fr n l) op=none)(h:oY T X (fr n l) op=some u):bF T X (fr n l) op=some (u,X):=by simp[bF,h,h0]
variable{q:U×Sg}
def IV{op:Op}(h0:gW T X (fr n l) op=none)(h1:oY T X (fr n l) op=none)(h:nS T X (fr n l) op=some q):bF T X (fr n l) op=some q:=by simp[bF,h,h0,h1]
variable{x:Jp}
def mW(h:bO n l x=some u):bF T X (fr n l) (.move x)=some (u,X):=tJ (dH h)
def qq4(h:bO n l x=some u):bF T X (fr n l) (.assign x)=some (u,X):=tJ (dH h)
variable{a:Jp}
def que{b:Jp}{t:BQ}(hc:bO n l c=some (.bool t))(ht:t=true)(h:bO n l a=some u):bF T X (fr n l) (.pick c a b)=some (u,X):=tJ (by subst ht;simp only[gW,dH hc];exact dH h)
def qud{b:Jp}{t:BQ}(hc:bO n l c=some (.bool t))(ht:t=false)(h:bO n l b=some u):bF T X (fr n l) (.pick c a b)=some (u,X):=tJ (by subst ht;simp only[gW,dH hc];exact dH h)
variable{off:Nat}
def BY{st:Nat}(h:bO n l x=some (.ptr k st off))(hl:live X k st=true):bF T X (fr n l) (.nilCheck x)=some (.ptr k st off,X):=tJ (by simp only[gW,dH h,hl,zC])
def QB{ps:Bo (Nat×Jp)}{qs:Z (Nat×U)}(h:AB n l ps.toList=some qs)(hb:En T t qs=some u):bF T X (fr n l) (.build t ps)=some (u,X):=tJ (by simp only[gW,Yq h,hb])
variable{t':O}
variable{y:Jp}
def z5q{op:BinOp}(hx:bO n l x=some v)(hy:bO n l y=some w)(h:g2 (sJ T op t) v w=some u):bF T X (fr n l) (.binOp op t x y t')=some (u,X):=tJ (by simp only[gW,dH hx,dH hy,IF,h])
def Y2{op:BinOp}(hx:bO n l x=some v)(hy:bO n l y=some w)(h0:g2 (sJ T op t) v w=none)(h:Dz T X op t v w=some u):bF T X (fr n l) (.binOp op t x y t')=some (u,X):=tJ (by simp only[gW,dH hx,dH hy,IF,h0,h])
variable{k:IntKind}
variable{r:A}
def wX{op:BinOp}{k':IntKind}{a b:Int}(hx:bO n l x=some (.int k a))(hy:bO n l y=some (.int k' b))(h:jF op k a k' b=some r)(hr:iB r=some u):bF T X (fr n l) (.binOp op t x y t')=some (u,X):=z5q hx hy (by simp only[g2,toV,sJ,h,hr])
def E6{op:BinOp}{a b:Z O8}(hx:bO n l x=some (.str a))(hy:bO n l y=some (.str b))(h:FA op ⟨⟨a⟩⟩ ⟨⟨b⟩⟩=some r)(hr:iB r=some u):bF T X (fr n l) (.binOp op t x y t')=some (u,X):=z5q hx hy (by simp only[g2,toV,sJ,h,hr])
def R9{op:UnOp}(hx:bO n l x=some v)(h:toV v=some (r)){q:A}(hu:P0 op r=some q)(hq:iB q=some u):bF T X (fr n l) (.unOp op t x)=some (u,X):=tJ (by simp only[gW,dH hx,g1,h,hu,hq])
def qz1{s d:O}{q:A}(hx:bO n l x=some v)(h:toV v=some r)(hu:WB T s d r=some q)(hq:iB q=some u):bF T X (fr n l) (.convert s d x)=some (u,X):=tJ (by simp only[gW,dH hx,g1,h,hu,hq])
def Yi{f:Fn}{first cap:Bo Jp}{a b:Z U}(h1:L4 n l first.toList=some a)(h2:L4 n l cap.toList=some b):bF T X (fr n l) (.makeFunc f first cap)=some (.fn f a b,X):=tJ (by simp only[gW,Lp h1,Lp h2])
variable{k:Nat}
def y9{f:Nat}{fs:Bo Field}{fd:Field}{s st:Nat}(hd:T.und t=some (.struct fs))(hf:nth fs.toList f=some fd)(hs:c6 T fd.type=some (s+1))(hx:bO n l x=some (.ptr k st off))(hl:live X k st=true){off':Nat}(ho:off+fd.offset=off'):bF T X (fr n l) (.fieldAddr t x f)=some (.ptr k st off',X):=tJ (by subst ho;simp only[gW,dH hx,Nh,hd,hf,hs,hl,zC])
variable{q:Z U}
def uk{f:Nat}{fs:Bo Field}{fd:Field}{s:Nat}(hd:T.und t=some (.struct fs))(hf:nth fs.toList f=some fd)(hs:c6 T fd.type=some (s+1))(hx:bO n l x=some (.iptr q)){q':Z U}(hq:q.drop fd.offset=q'):bF T X (fr n l) (.fieldAddr t x f)=some (.iptr q',X):=tJ (by subst hq;simp only[gW,dH hx,Nh,hd,hf,hs])
def z5s{i:Nat}(hx:bO n l x=some (.tup q))(h:nth q i=some u):bF T X (fr n l) (.extract x i)=some (u,X):=tJ (by simp only[gW,dH hx,Zy,h])
def fA{i:Jp}(hx:bO n l x=some v)(hi:bO n l i=some w)(h:AH T X t v w=some u):bF T X (fr n l) (.indexAddr t x i)=some (u,X):=tJ (by simp only[gW,dH hx,dH hi,h])
variable{v11:Type}
variable{e:O}
variable{sz:Nat}
variable{b:BQ}
variable{xs:Z v11}
variable{i:Int}
def Ee(c:v11->Z U){k:IntKind}{x:v11}(hd:T.und t=some (.slice e))(hs:c6 T e=some sz)(hc:∀x,(c x).length=sz)(hx:aC xs i=some x)(hq:c x=q):AH T X t (.isl b (xs.map c)) (.int k i)=some (.iptr q):=by
 subst hq;obtain⟨h1,h2,h3⟩:=qyc c hx;have:Nat.beq (c x).length sz=true:=by simp[beq_eq,hc]
 simp only[AH,hd,hs,yA,h1,h2,and_self,if_true,h3,this,zC]
variable{e':O}
variable{K:Nat}
def pS(c:v11->Z U){st:Nat}{k:IntKind}{x:v11}(hd:T.und t=some (.slice e))(hs:c6 T e=some sz)(hz:0<sz)(hc:∀x,(c x).length=sz)(hv:mK X K st=some ((xs.map c).flatten,e',sz))(hx:aC xs i=some x):AH T X t (.vl K st 0 xs.length) (.int k i)=some (.ptr K st (0*sz+i.toNat*sz)):=by
 obtain⟨h1,h2,h3⟩:=Fj hx;have cT:=UO hc hz hx;have hb:Nat.beq sz sz=true:=by simp[beq_eq]
 simp only[AH,hd,hs,hv,hb,zC,h1,h2,ne_eq,cT,not_false_eq_true,and_self,if_true]
variable{d:TypeDesc}
def YG(c:v11->Z U){st:Nat}{x:v11}(hd:T.und t=some d)(ha:p9 d=true)(hs:c6 T t=some sz)(hc:∀x,(c x).length=sz)(ho:bO n l o=some (.ptr K st (0*sz+i.toNat*sz)))(hv:gt X.h K=some (.vec (xs.map c).flatten e' sz st))(hx:aC xs i=some x)(hq:c x=q):bF T X (fr n l) (.load t o)=some (.agg q,X):=by
 subst hq;refine OQ rfl ?_;have hb:Nat.beq st st=true:=by simp[beq_eq]
 simp only[oY,dH ho,cellsOf,hv,hb,zC,E3,hd,ha,hs,z0p hc hx]
def yG(c:v11->Z U){st:Nat}{x:v11}(f:v11->U)(hd:T.und t=some d)(ha:p9 d=false)(hc:∀x,c x=[f x])(ho:bO n l o=some (.ptr K st (0*1+i.toNat*1)))(hv:gt X.h K=some (.vec (xs.map c).flatten e' 1 st))(hx:aC xs i=some x):bF T X (fr n l) (.load t o)=some (f x,X):=by
 refine OQ rfl ?_;have hb:Nat.beq st st=true:=by simp[beq_eq]
 simp only[oY,dH ho,cellsOf,hv,hb,zC,E3,hd,ha,zD,z8r (fun x=>by rw[hc];rfl) hc hx]
def JW{lo hi mx:I Jp}{a b c:I A}(hx:bO n l x=some v)(h1:uF (fr n l) lo=some a)(h2:uF (fr n l) hi=some b)(h3:uF (fr n l) mx=some c)(h:PW T X t v a b c=some u):bF T X (fr n l) (.slice t x lo hi mx)=some (u,X):=tJ (by simp only[gW,dH hx,h1,h2,h3,h])
def uC:uF (fr n l) none=some none:=rfl
def L5{k:IntKind}{z:Int}(h:bO n l o=some (.int k z)):uF (fr n l) (some o)=some (some (.int k z)):=by simp only[uF,dH h]
def Lg(c:v11->Z U){a h m:Nat}{ys:Z v11}{lo hi:I A}(hd:T.und t=some (.slice e))(hs:c6 T e=some sz)(hc:∀x,(c x).length=sz)(hb:fD xs.length xs.length lo hi none=some (a,h,m))(hy:o8 (xs.map c) a h=ys.map c):PW T X t (.isl b (xs.map c)) lo hi none=some (.isl (cond b (Nat.beq h xs.length) false) (ys.map c)):=by simp only[PW,hd,hs,aj hc xs,if_true,yA,hb,hy]
variable{args:Bo Jp}
variable{ts:Bo O}
def JK(ha:args.toList=[x]){q:Z O}(ht:ts.toList=t::q)(hx:bO n l x=some v)(h:v7 T X t v=some u):bF T X (fr n l) (.call { callee:=.builtin .len,args:=args,argTypes:=ts })=some (u,X):=tJ (by simp only[gW,ha,ht,lP,dH hx,h])
def qyg(c:v11->Z U)(hd:T.und t=some (.slice e)):v7 T X t (.isl b (xs.map c))=some (.int .i64 xs.length):=by simp[v7,hd]
def Y3{xs:Z Jp}{a:A}{b:Z A}(ha:args.toList=x::xs)(hx:bO n l x=some v)(hl:L4 n l xs=some us)(h1:toV v=some a)(h2:mR us=some b)(h:wV PU a b=some r)(hr:iB r=some u):bF T X (fr n l) (.call { callee:=.builtin .min,args:=args,argTypes:=ts })=some (u,X):=tJ (by simp only[gW,ha,lP,dH hx,Lp hl,h1,h2,h,hr])
variable{cs:Z U}
def vD{st:Nat}(hd:T.und t=some d)(ha:p9 d=true)(hs:c6 T t=some sz)(hx:bO n l x=some (.ptr k st off))(hc:cellsOf X k st=some q)(h:iZ q off sz=some cs):bF T X (fr n l) (.load t x)=some (.agg cs,X):=OQ rfl (by simp only[oY,dH hx,hc,E3,hd,ha,hs,h,zC])
def LS{st:Nat}(hd:T.und t=some d)(ha:p9 d=false)(hx:bO n l x=some (.ptr k st off))(hc:cellsOf X k st=some q)(h:nth q off=some u):bF T X (fr n l) (.load t x)=some (u,X):=OQ rfl (by simp only[oY,dH hx,hc,E3,hd,ha,h,zD])
def z5k(hd:T.und t=some d)(ha:p9 d=true)(hs:c6 T t=some sz)(hx:bO n l x=some (.iptr q))(h:iZ q 0 sz=some cs):bF T X (fr n l) (.load t x)=some (.agg cs,X):=OQ rfl (by simp only[oY,dH hx,E3,hd,ha,hs,h,zC])
def Ll(hd:T.und t=some d)(ha:p9 d=false)(hx:bO n l x=some (.iptr q))(h:nth q 0=some u):bF T X (fr n l) (.load t x)=some (u,X):=OQ rfl (by simp only[oY,dH hx,E3,hd,ha,h,zD])
def Y4(hx:bO n l x=some v)(h:uG v=some cs)(hk:okL cs=true):bF T X (fr n l) (.box e x)=some (.ptr X.nx 0 0,newU X (.row cs e)):=IV rfl rfl (by simp only[nS,dH hx,h,hk,zC])
variable{z:A}
def z3h{a b:Nat}{zu:Z U}(hi:T.inf e=some (a,b,z))(hz:nH z.cells.toList=some zu)(hk:okL zu=true):bF T X (fr n l) (.alloc e)=some (.ptr X.nx 0 0,newU X (.row zu e)):=IV rfl rfl (by simp only[nS,hi,hz,hk,zC])
def z3i{st:Nat}{q':Z U}(hs:c6 T t=some sz)(ha:bO n l a=some (.ptr k st off))(hx:bO n l x=some v)(hc:uG v=some cs)(hl:Nat.beq cs.length sz=true)(hk:okL cs=true)(hg:cellsOf X k st=some q)(hp:o6 q off (DN X k cs)=some q')(Z9:JH X k q'=some X'):bF T X (fr n l) (.store t a x)=some (.junk,X'):=IV rfl rfl (by simp only[nS,dH ha,dH hx,WD,hs,hc,hl,hk,zC,hg,hp,Z9])
def Qo{ps:Bo (Nat×Jp)}{qs:Z (Nat×U)}{q:U×Sg}(h:AB n l ps.toList=some qs)(hb:Nr T X t k qs=some q):bF T X (fr n l) (.buildSlice t k ps)=some q:=IV rfl rfl (by simp only[nS,Yq h,hb])
def Qn{q:U×Sg}(hx:bO n l x=some v)(hy:bO n l y=some w)(hb:Kw T X t v w=some q):bF T X (fr n l) (.makeSlice t x y)=some q:=IV rfl rfl (by simp only[nS,dH hx,dH hy,hb])
variable{xt:O}
def rN{q:U×Sg}(ha:args.toList=[x,y])(ht:ts.toList=[t,xt])(hx:bO n l x=some v)(hy:bO n l y=some w)(h:AG T X t xt v w=some q):bF T X (fr n l) (.call { callee:=.builtin .append,args:=args,argTypes:=ts })=some q:=IV rfl rfl (by simp only[nS,ha,ht,lP,dH hx,dH hy,qc,h])
def FY{c:Call}{f:Jp}{g:FuncId}{fn:Func}{first cap a7:Z U}(hc:c.callee=.value f)(hf:bO n l f=some (.fn (.func g) first cap))(hg:T.fn g=some fn)(hb:fn.body.isSome=true)(ha:L4 n l c.args.toList=some a7){args:Z U}(he:first++a7++cap=args):jG T (fr n l) (.call c)=some (g,args):=by subst he;simp only[jG,hc,dH hf,hg,hb,zC,Lp ha]
variable{e2:O}
variable{by_:Nat}
def af(c:v11->Z U)(ys:Z v11)(hd:T.und t=some (.slice e))(cX:T.und xt=some (.slice e2))(hi:T.inf e=some (sz+1,by_,z))(hz:Nat.beq z.cells.toList.length (sz+1)=true)(hw:rK X (sz+1) w=some (ys.length,(ys.map c).flatten))(hr:ys.length*by_<=140737488355328/\ys.length<=140737488355328):AG T X t xt .nils w=some (.vl X.nx 0 0 ys.length,newU X (.vec (ys.map c).flatten e (sz+1) 0)):=by simp only[AG,hd,cX,hi,hz,zC,hw,hr,and_self,if_true]
def ah(c:v11->Z U)(ys:Z v11){a:Nat}(hd:T.und t=some (.slice e))(cX:T.und xt=some (.slice e2))(hi:T.inf e=some (sz+1,by_,z))(hz:Nat.beq z.cells.toList.length (sz+1)=true)(hq:rowOf X a=some q)(ho:Nat.ble off q.length=true)(hw:rK X (sz+1) w=some (ys.length,(ys.map c).flatten))(hr:ys.length*by_<=140737488355328/\ys.length<=140737488355328):AG T X t xt (.sl a off 0 0) w=some (.vl X.nx 0 0 ys.length,newU X (.vec (ys.map c).flatten e (sz+1) 0)):=by
 have ym:=zY ho;have:iZ q off (0*(sz+1))=some []:=by simp[iZ,ym]
 simp only[AG,hd,cX,hi,hz,zC,hw,hq,this,hr,and_self,if_true]
def C0(c:v11->Z U)(ys:Z v11){a st:Nat}(hd:T.und t=some (.slice e))(cX:T.und xt=some (.slice e2))(hi:T.inf e=some (sz+1,by_,z))(hz:Nat.beq z.cells.toList.length (sz+1)=true)(hc:∀x,(c x).length=sz+1)(hg:gt X.h a=some (.vec (xs.map c).flatten e (sz+1) st))(hw:rK X (sz+1) w=some (ys.length,(ys.map c).flatten))(hr:(xs.length+ys.length)*by_<=140737488355328/\xs.length+ys.length<=140737488355328):AG T X t xt (.vl a st 0 xs.length) w=some (.vl a (st+1) 0 (xs++ys).length,⟨ug X.h a (.vec ((xs++ys).map c).flatten e (sz+1) (st+1)),X.nx⟩):=by
 have b1:Nat.beq st st=true:=by simp[beq_eq]
 have b2:Nat.beq e e=true:=by simp[beq_eq]
 have b3:Nat.beq (sz+1) (sz+1)=true:=by simp[beq_eq]
 have hs:=z8f hc xs;have hl:=C5 hc xs;rw[dh,zU];simp only[AG,hd,cX,hi,hz,zC,hw,hg,b1,b2,b3,hs,hl,hr.1,hr.2,true_and,and_true,or_true,if_true]
def z1l(c:v11->Z U)(ys:Z v11)(hd:T.und t=some (.slice e))(cX:T.und xt=some (.slice e2))(hi:T.inf e=some (sz+1,by_,z))(hz:Nat.beq z.cells.toList.length (sz+1)=true)(hc:∀x,(c x).length=sz+1)(hw:rK X (sz+1) w=some (ys.length,(ys.map c).flatten))(hk:0<ys.length)(hr:(xs.length+ys.length)*by_<=140737488355328/\xs.length+ys.length<=140737488355328):AG T X t xt (.isl true (xs.map c)) w=some (.vl X.nx 0 0 (xs++ys).length,newU X (.vec ((xs++ys).map c).flatten e (sz+1) 0)):=by rw[dh,zU];simp only[AG,hd,cX,hi,hz,zC,hw,yA,hr,hk,aj hc xs,and_self,if_true]
def Ma(c:v11->Z U)(hc:∀x,(c x).length=sz):rK X sz (.isl b (xs.map c))=some (xs.length,(xs.map c).flatten):=by simp only[rK,aj hc xs,if_true,yA]
def E8(c:v11->Z U)(ys:Z v11)(hq:rowOf X K=some q)(hs:iZ q off (k*sz)=some cs)(hl:k=ys.length)(hc:oU cs=(ys.map c).flatten):rK X sz (.sl K off k k)=some (ys.length,(ys.map c).flatten):=by subst hl;simp only[rK,hq,hs,hc]
def bZ{a b:Nat}(h:T.inf t=some (a,b,z)):c6 T t=some a:=by simp only[c6,h]
def vo{st:Nat}(h:gt X.h K=some (.vec q e sz st)):mK X K st=some (q,e,sz):=by
 have b:Nat.beq st st=true:=by simp[beq_eq]
 simp only[mK,h,b,zC]
def bi{st m:Nat}(hd:T.und t=some (.slice e))(h:gt X.h K=some (.vec q e' sz st)):v7 T X t (.vl K st 0 m)=some (.int .i64 m):=by
 have b:Nat.beq st st=true:=by simp[beq_eq]
 simp only[v7,hd,live,h,B.st,b,zC]
end
def YY(k:IntKind)(a b:Int):jF .add k a k b=some (.int k (k.wrap (a+b))):=by simp[jF]
def YO(k:IntKind)(a b:Int):jF .sub k a k b=some (.int k (k.wrap (a-b))):=by simp[jF]
def YS(k:IntKind)(a b:Int):jF .mul k a k b=some (.int k (k.wrap (a*b))):=by simp[jF]
def Ym(k:IntKind){a b:Int}(h:¬ b=0):jF .quo k a k b=some (.int k (k.wrap (a.tdiv b))):=by simp[jF,h]
def z5i(k:IntKind){a b:Int}(h:¬ b=0):jF .rem k a k b=some (.int k (a.tmod b)):=by simp[jF,h]
def YX(k:IntKind)(a b:Int):jF .eql k a k b=some (.bool (a==b)):=by simp[jF]
def YR(k:IntKind)(a b:Int):jF .neq k a k b=some (.bool (a != b)):=by simp[jF]
def YT(k:IntKind)(a b:Int):jF .lss k a k b=some (.bool (decide (a<b))):=by simp[jF]
def YU(k:IntKind)(a b:Int):jF .leq k a k b=some (.bool (decide (a<=b))):=by simp[jF]
def YV(k:IntKind)(a b:Int):jF .gtr k a k b=some (.bool (decide (a>b))):=by simp[jF]
def YW(k:IntKind)(a b:Int):jF .geq k a k b=some (.bool (decide (a>=b))):=by simp[jF]
def Gh.row{n0:Nat}{tm:Z U}{X:Sg}{K:Nat}{q q':Z U}{e:O}(hg:gt X.h K=some (.row q e))(hk:okL q'=true)(gY:∀x vs,x.X=X->i8 x->aX x q vs->aX x q' vs):Gh n0 tm X tm ⟨ug X.h K (.row q' e),X.nx⟩:=fun F x tv hx hr hf he=>by
 subst hx
 let y:Cx:=⟨x.Y,⟨ug x.X.h K (.row q' e),x.X.nx⟩,x.s⟩
 have NT:∀k,gt y.X.h k=if K=k then some (.row q' e)else gt x.X.h k:=fun k=>by show gt (ug x.X.h K (.row q' e)) k=_;rw[c7,hg];rfl
 have eY:Mo x.X.nx x y:=⟨fun k _ h2=>⟨h2,fun b hb=>by rw[NT]at hb;by_cases ek:K=k;subst ek;simp only[if_true,zA]at hb;subst hb;exact⟨_,hg,zF _,fun _=>⟨rfl,fun l e sz st h=>by cases h⟩⟩;simp only[ek,if_false]at hb;exact⟨b,hb,zF _,fun _=>⟨rfl,fun l e sz st h=>⟨l,h⟩⟩⟩⟩,fun _ _ _ h=>h⟩;refine⟨y,fun m w hf=>bQ.refl hf,rfl,⟨fun k b hb=>?_,fun k k' b b' i hb bV=>?_,hr.bd⟩,fun i b J=>?_,eY.ke.E he.bel he,fun u v hb hr=>eY.ke u v (aB.bel u v hr) hr⟩;rw[NT]at hb;by_cases ek:K=k;subst ek;simp only[if_true,zA]at hb;subst hb;obtain⟨h1,k1,i,l',e1,e2,e3⟩:=hr.ok K _ hg;have:=gY x l' rfl hr e3;exact⟨h1,hk,i,l',e1,e2,eY.ke.E this.bel this⟩;simp only[ek,if_false]at hb;obtain⟨h1,h2⟩:=hr.ok k b hb;exact⟨h1,h2.mono eY rfl fun _ _ _ h=>h⟩;have old:∀k b,gt y.X.h k=some b->∃c,gt x.X.h k=some c:=fun k b hb=>by rw[NT]at hb;by_cases ek:K=k;subst ek;exact⟨_,hg⟩;simp only[ek,if_false]at hb;exact⟨b,hb⟩
 obtain⟨c,hc⟩:=old k b hb;obtain⟨c',lI⟩:=old k' b' bV;exact hr.inj k k' c c' i hc lI;obtain⟨h1,h2⟩:=hf i b J;refine⟨h1,fun k c hc=>?_⟩;rw[NT]at hc;by_cases ek:K=k;subst ek;exact h2 _ _ hg;simp only[ek,if_false]at hc;exact h2 k c hc
def ES{n0:Nat}{tm:Z U}{X:Sg}(K i:Nat){q:Z U}{e0:O}(e:O)(sz:Nat)(eA:0<sz)(h0:n0<=X.nx)(hg:gt X.h K=some (.row q e0))(hi:nth q i=some .nils):Gh n0 tm X tm ⟨ug (newU X (.vec [] e sz 0)).h K (.row (q.set i (.vl X.nx 0 0 0)) e0),X.nx+1⟩:=fun F x tv hx hr hf he=>by
 subst hx;have hK:=(hr.ok K _ hg).1;obtain⟨_,k1,_⟩:=hr.ok K _ hg;have ho:=fg hr e sz eA;rw[i9]at hi
 let y:Cx:=⟨lB x.Y x.X.nx none,newU x.X (.vec [] e sz 0),x.s⟩
 have NS:gt y.X.h K=some (.row q e0):=by show gt ((x.X.nx,_)::x.X.h) K=_;rw[aQ,if_neg (by omega),hg]
 let z:Cx:=⟨y.Y,⟨ug y.X.h K (.row (q.set i (.vl x.X.nx 0 0 0)) e0),y.X.nx⟩,y.s⟩
 have NT:∀k,gt z.X.h k=if K=k then some (.row (q.set i (.vl x.X.nx 0 0 0)) e0)else gt y.X.h k:=fun k=>by show gt (ug y.X.h K _) k=_;rw[c7,NS];rfl
 have eY:Mo y.X.nx y z:=⟨fun k _ h2=>⟨h2,fun b hb=>by rw[NT]at hb;by_cases ek:K=k;subst ek;simp only[if_true,zA]at hb;subst hb;exact⟨_,NS,zF _,fun _=>⟨rfl,fun l e sz st h=>by cases h⟩⟩;simp only[ek,if_false]at hb;exact⟨b,hb,zF _,fun _=>⟨rfl,fun l e sz st h=>⟨l,h⟩⟩⟩⟩,fun _ _ _ h=>h⟩;have hey:=ho.mo.ke.E he.bel he;have hfy:=ho.fr F hf;refine⟨z,fun m w hf=>bQ.refl hf,rfl,⟨fun k b hb=>?_,fun k k' b b' j hb bV=>?_,ho.h.bd⟩,fun j b J=>?_,eY.ke.E hey.bel hey,fun u v hb hr=>eY.ke u v (aB.bel u v (ho.mo.ke.le h0 u v hb hr)) (ho.mo.ke.le h0 u v hb hr)⟩;rw[NT]at hb;by_cases ek:K=k;subst ek;simp only[if_true,zA]at hb;subst hb;obtain⟨h1,k1,j,l',e1,e2,e3⟩:=ho.h.ok K _ NS;refine⟨h1,?_,j,l',e1,e2,?_⟩;refine(JQ _).2 fun u hu=>?_;rcases List.mem_or_eq_of_mem_set hu with h |h
 exact(JQ q).1 k1 u h;subst h;rfl;obtain⟨v,h3,h4⟩:=e3.get hi;simp only[aB]at h4;subst h4;have:=e3.set i (ng (x:=x) (e:=e) (sz:=sz) (o:=none) (by simp));rw[qv2 h3]at this;exact eY.ke.E this.bel this;simp only[ek,if_false]at hb;obtain⟨h1,h2⟩:=ho.h.ok k b hb;exact⟨h1,h2.mono eY rfl fun _ _ _ h=>h⟩;have old:∀k b,gt z.X.h k=some b->∃c,gt y.X.h k=some c:=fun k b hb=>by rw[NT]at hb;by_cases ek:K=k;subst ek;exact⟨_,NS⟩;simp only[ek,if_false]at hb;exact⟨b,hb⟩
 obtain⟨c,hc⟩:=old k b hb;obtain⟨c',lI⟩:=old k' b' bV;exact ho.h.inj k k' c c' j hc lI;obtain⟨h1,h2⟩:=hfy j b J;refine⟨h1,fun k c hc=>?_⟩;rw[NT]at hc;by_cases ek:K=k;subst ek;exact h2 _ _ NS;simp only[ek,if_false]at hc;exact h2 k c hc
def uE(k:IntKind)(x:Int):(cI k x).length=1:=rfl
def LR(x:Z O8):(cS x).length=1:=rfl
def Ec{v11:Type}(c:v11->Z U)(x:Z v11):(cL c x).length=1:=rfl
section
variable{T:Tb}{X X':Sg}{n:Nat}{l:Z (Nat×U)}{u v w:U}
def z6a{a b:Z O8}(h:a.length+b.length<=9223372036854775807):FA .add ⟨⟨a⟩⟩ ⟨⟨b⟩⟩=some (.string ⟨(a++b).toArray⟩):=by
 have:¬ (((a.length+b.length:Nat):Int)>9223372036854775807):=by omega
 simp only[FA,this,if_false]
end
def aV.post{P:Uz}{f:FuncId}{args:Z U}{X:Sg}{R R':U->Sg->Prop}(h:aV P f args X R)(hg:∀u dK,R u dK->∃u' X2,X.nx<=X2.nx/\Gh X.nx [u] dK [u'] X2/\R' u' X2):aV P f args X R':=fun F x vs m w cargs hx hh fP he eG cJ=>by
 refine(h F x vs m w cargs hx hh fP he eG cJ).mono ?_;rintro e w₁ ⟨y,aI,u,v,cv,h1,h2,h3,h4,h5,h6,h7,h8,h9⟩;obtain⟨u',X2,g1,g2,g3⟩:=hg u y.X h2;obtain⟨z,z1,z2,z3,z4,z5,z6⟩:=g2 F y [v] rfl h5 h6 (aX.cons h7 (aX.nil y));obtain⟨v0,Iu,e0,z7,_⟩:=z5.inv;cases e0;have fB:=z1 aI w₁ h3.fits;exact⟨z,aI,u',v,cv,h1,z2 ▸ g3,h3.trans fB,h4.ext (aJ.refl _ _) fB.nx,z3,z4,z7,by rw[hx]at h8 ⊢;exact h8.trans z6,by rw[hx,z2];exact g1⟩
mutual
def th(V:Nat->Nat):(u:U)->aP 0 u->rU V u=u
 |.ptr k _ _,h=>by simp[aP]at h
 |.sl k _ _ _,h=>by simp[aP]at h
 |.vl k _ _ _,h=>by simp[aP]at h
 |.map k,h=>by simp[aP]at h
 |.iptr l,h=>by simp only[aP]at h;simp[rU,JV V l h]
 |.isl t l,h=>by simp only[aP]at h;simp[rU,az V l h]
 |.fn f a b,h=>by simp only[aP]at h;simp[rU,JV V a h.1,JV V b h.2]
 |.agg l,h=>by simp only[aP]at h;simp[rU,JV V l h]
 |.tup l,h=>by simp only[aP]at h;simp[rU,JV V l h]
 |.junk,_=>rfl|.bool _,_=>rfl
 |.int _ _,_=>rfl|.str _,_=>rfl
 |.nilp,_=>rfl|.nils,_=>rfl
 |.nilm,_=>rfl|.nilf,_=>rfl
 |.nili,_=>rfl
def JV(V:Nat->Nat):(l:Z U)->aF 0 l->eM V l=l
 |[],_=>rfl|u::l,h=>by simp only[aF]at h;simp[eM,th V u h.1,JV V l h.2]
def az(V:Nat->Nat):(l:Z (Z U))->jO 0 l->sG V l=l
 |[],_=>rfl|c::l,h=>by simp only[jO]at h;simp[sG,JV V c h.1,az V l h.2]
end
section
variable{P:Uz}{T:Tb}{aA r:Z Oper}{o:Oper}{n:Nat}{l:Z (Nat×U)}{X:Sg}{K:Z U->Sg->Prop}
def lK{C:PG}{f:FuncId}{args:Z U}{R:U->Sg->Prop}(hw:cA aA (fr n l) o=some true)(hc:jG T (fr n l) o.op=some (f,args))(jT:aV C.prog f args X R){d:Tmp}(he:o.dst=some d)(hd:Nat.blt d n=true)(hk:∀u X',R u X'->RU C T aA r (fr n ((d,u)::l)) X' K):RU C T aA (o::r) (fr n l) X K :=
 RU.call hw hc jT (fun u X' h=>by rw[he,sL (d:=some d) u hd];exact hk u X' h)
end
section
variable{Q:Exit->Z U->Sg->Prop}{K:Z U->Sg->Prop}{tm:Z U}{X:Sg}{i j n0:Nat}{E:Z U->Sg->Prop}
def q1(h:K tm X):BT K Q .normal tm X:=h
def q2(h:Q (.exit i) tm X):BT K Q (.exit i) tm X:=h
def q3(h:Q .ret tm X):BT K Q .ret tm X:=h
def q4(h:Q .normal tm X):xB i Q .normal tm X:=h
def q5(h:Q .ret tm X):xB i Q .ret tm X:=h
def q6(h:Q .normal tm X):xB i Q (.exit i) tm X:=Rt h
def q7(kB:¬ j=i)(h:Q (.exit j) tm X):xB i Q (.exit j) tm X:=Rs kB h
def q8(h:∃tm' X',E tm' X'/\n0<=X'.nx/\Gh n0 tm X tm' X'):PO n0 E Q .normal tm X:=h
def q9(h:Q .ret tm X):PO n0 E Q .ret tm X:=h
def q0(h:Q (.exit i) tm X):PO n0 E Q (.exit i) tm X:=h
end
def Fw(p:Nat->BQ):∀(h:Z (Nat×B))(k:Nat),gt (h.filter fun x=>p x.1) k=if p k then gt h k else none
 |[],k=>by simp[gt]
 |(j,b)::h,k=>by
  rw[List.filter_cons];cases hp:p j with
  |true=>simp only[if_true,aQ,Fw p h k];by_cases e:j=k;subst e;simp[hp];simp[e]|false=>simp only[Bool.false_eq_true,if_false,Fw p h k,aQ];by_cases e:j=k;subst e;simp[hp];simp[e]
def Gh.only{n0:Nat}{tm:Z U}{X:Sg}(p:Nat->BQ):Gh n0 tm X tm ⟨X.h.filter fun x=>p x.1,X.nx⟩:=fun F x tv hx hr hf he=>by
 subst hx;have mo:∀n,Mo n x ⟨x.Y,⟨x.X.h.filter fun y=>p y.1,x.X.nx⟩,x.s⟩:=fun n=>⟨fun k _ h2=>⟨h2,fun b' bV=>by simp only[Fw]at bV;split at bV;exact⟨b',bV,zF _,fun _=>⟨rfl,fun l e sz st h=>⟨l,h⟩⟩⟩;cases bV⟩,fun _ _ _ h=>h⟩;refine⟨⟨x.Y,⟨x.X.h.filter fun y=>p y.1,x.X.nx⟩,x.s⟩,fun m w hf=>bQ.refl hf,rfl,⟨?_,?_,hr.bd⟩,?_,he.mono (mo _) he.bel,fun u v hb hv=>aB.mono (mo _) u v (aB.bel u v hv) hv⟩;intro k b hb;simp only[Fw]at hb;split at hb;obtain⟨h1,h2⟩:=hr.ok k b hb;exact⟨h1,h2.mono (mo _) rfl (fun i c _ h=>h)⟩;cases hb;intro k k' b b' i hb bV h1 h2;simp only[Fw]at hb bV;split at hb;split at bV;exact hr.inj k k' b b' i hb bV h1 h2;cases bV;cases hb;intro i b J;obtain⟨h1,h2⟩:=hf i b J;refine⟨h1,fun k c hc=>?_⟩;simp only[Fw]at hc;split at hc;exact h2 k c hc;cases hc
def nR{v11:Type}(l:Z v11)(off n:Nat)(i:Int):I v11:=if 0<=i/\i<(n:Int)then l[off+i.toNat]? else none
variable{v11:Type}
variable{off:Nat}
variable{i:Int}
variable{x:v11}
def QD{l:Z v11}{n:Nat}(h:nR l off n i=some x):0<=i/\i<(n:Int)/\l[off+i.toNat]? = some x:=by unfold nR at h;split at h;rename_i hi;exact⟨hi.1,hi.2,h⟩;cases h
section
variable{v11:Type}{c:v11->Z U}{sz:Nat}(hc:∀x,(c x).length=sz)
include hc
def V'{xs:Z v11}{j:Nat}{x:v11}(h:xs[j]? = some x):iZ (xs.map c).flatten (j*sz) sz=some (c x):=by
 have hj:=(zG.1 h).1;unfold iZ;rw[C5 hc,qm hc];have e:xs.drop j=x::xs.drop (j+1):=by rw[List.drop_eq_getElem_cons hj];congr;exact(zG.1 h).2
 rw[e,if_pos (by rw[<-Nat.succ_mul];exact Nat.mul_le_mul_right _ hj)];simp only[zQ,List.flatten_cons];have:=hc x;rw[<-this,List.take_left'];rfl
def dg{xs:Z v11}{j:Nat}(h:j<xs.length)(x:v11):o6 (xs.map c).flatten (j*sz) (c x)=some ((xs.set j x).map c).flatten:=by unfold o6;rw[C5 hc,hc,if_pos (by rw[<-Nat.succ_mul];exact Nat.mul_le_mul_right _ h),<-Nat.succ_mul,qm hc,qpj hc,List.set_eq_take_append_cons_drop,if_pos h];simp
end
section
variable{T:Tb}{X X':Sg}{n:Nat}{l:Z (Nat×U)}{u v w:U}
variable{t:O}
variable{e:O}
variable{e':O}
variable{sz:Nat}
variable{K:Nat}
variable{m:Nat}
variable{xs:Z v11}
def S2(c:v11->Z U){st:Nat}{k:IntKind}(hd:T.und t=some (.slice e))(hs:c6 T e=some sz)(hz:0<sz)(hc:∀x,(c x).length=sz)(hv:mK X K st=some ((xs.map c).flatten,e',sz))(hx:nR xs off m i=some x):AH T X t (.vl K st off m) (.int k i)=some (.ptr K st (off*sz+i.toNat*sz)):=by
 obtain⟨h1,h2,h3⟩:=QD hx;have cT:¬ (xs.map c).flatten=[]:=fun h=>by have:=congrArg List.length h;rw[C5 hc]at this;have h4:=(zG.1 h3).1;have:=Nat.mul_pos (show 0<xs.length by omega) hz;simp at*;omega
 have hb:Nat.beq sz sz=true:=by simp[beq_eq]
 simp only[AH,hd,hs,hv,hb,zC,h1,h2,ne_eq,cT,not_false_eq_true,and_self,if_true]
def qw1{q:Z U}{j:Nat}{u:U}(h:iZ q j 1=some [u]):nth q j=some u:=by
 unfold iZ at h;split at h;rename_i hj;simp only[zA]at h;rw[i9];have:((q.drop j).take 1)[0]? = some u:=by rw[h];rfl
 simpa using this;cases h
def Kg(c:v11->Z U){st:Nat}{y:v11}{o z:Jp}{cs:Z U}{h':Z (Nat×B)}(hs:c6 T t=some sz)(hc:∀x,(c x).length=sz)(ho:bO n l o=some (.ptr K st (off*sz+i.toNat*sz)))(hz:bO n l z=some v)(D1:uG v=some cs)(hk:okL cs=true)(hl:Nat.beq cs.length sz=true)(hy:oU cs=c y)(hv:gt X.h K=some (.vec (xs.map c).flatten e' sz st))(hx:nR xs off m i=some x)(Z9:ug X.h K (.vec ((xs.set (off+i.toNat) y).map c).flatten e' sz st)=h'):bF T X (fr n l) (.store t o z)=some (.junk,⟨h',X.nx⟩):=by
 subst Z9;have hb:Nat.beq st st=true:=by simp
 have hj:=(zG.1 (QD hx).2.2).1;have hp:=dg hc hj y;rw[Nat.add_mul]at hp;exact IV rfl rfl (by simp only[nS,dH ho,dH hz,WD,hs,D1,hl,hk,zC,cellsOf,hv,hb,DN,hy,hp,JH])
def Ed(h:aC xs i=some x):nR xs 0 xs.length i=some x:=by obtain⟨h1,h2,h3⟩:=Fj h;unfold nR;rw[if_pos ⟨h1,h2⟩,Nat.zero_add];exact h3
def Iq(c:v11->Z U){st a h q:Nat}{lo hi:I A}(hd:T.und t=some (.slice e))(hs:c6 T e=some sz)(hc:∀x,(c x).length=sz)(hv:mK X K st=some ((xs.map c).flatten,e',sz))(hm:off+m<=xs.length)(hb:fD m m lo hi none=some (a,h,q)):PW T X t (.vl K st off m) lo hi none=some (.vl K st (off+a) (h-a)):=by
 have b:Nat.beq sz sz=true:=by simp[beq_eq]
 have hl:(off+m)*sz<=(xs.map c).flatten.length:=by rw[C5 hc];exact Nat.mul_le_mul_right _ hm
 simp only[PW,hd,hs,hv,b,zC,hb,hl,if_true]
def YE{st:Nat}{q:Z U}(hd:T.und t=some (.slice e))(h:gt X.h K=some (.vec q e' sz st)):v7 T X t (.vl K st off m)=some (.int .i64 m):=by
 have b:Nat.beq st st=true:=by simp[beq_eq]
 simp only[v7,hd,live,h,B.st,b,zC]
def Yf(c:v11->Z U){st:Nat}(hc:∀x,(c x).length=sz)(hv:mK X K st=some ((xs.map c).flatten,e,sz))(hm:off+m<=xs.length):rK X sz (.vl K st off m)=some (((xs.drop off).take m).length,(((xs.drop off).take m).map c).flatten):=by
 have b:Nat.beq sz sz=true:=by simp[beq_eq]
 have hl:off*sz+m*sz<=(xs.map c).flatten.length:=by rw[C5 hc,<-Nat.add_mul];exact Nat.mul_le_mul_right _ hm
 have e1:((xs.drop off).take m).length=m:=by simp;omega
 simp only[rK,hv,b,zC,iZ,hl,if_true,qm hc,qpj hc,e1]
end
class Im(a b:Nat):Prop where
 h:a<b
instance{b:Nat}:Im 0 (b+1):=⟨Nat.succ_pos _⟩
instance{a b:Nat}[q:Im a b]:Im (a+1) (b+1):=⟨Nat.succ_lt_succ q.h⟩
class BF{v11:Type}(c:v11->Z U):Prop where
 h:∀n x,aF n (c x)
instance(k:IntKind):BF (cI k):=⟨fun n x=>Ys n k x⟩
instance:BF cS:=⟨z4s⟩
instance{v11:Type}(c:v11->Z U)[q:BF c]:BF (cL c):=⟨fun n x=>Cp n (q.h n) x⟩
class BU(n:Nat)(u:U):Prop where
 h:aP n u
class nE(n:Nat)(l:Z U):Prop where
 h:aF n l
instance(n:Nat):nE n []:=⟨by simp[aF]⟩
instance(n:Nat)(u:U)(l:Z U)[a:BU n u][b:nE n l]:nE n (u::l):=⟨by simp only[aF];exact⟨a.h,b.h⟩⟩
instance{v11:Type}(n:Nat)(c:v11->Z U)(l:Z v11)[q:BF c]:nE n (l.map c).flatten:=⟨Fp n (q.h n) l⟩
instance(n:Nat)(b:BQ):BU n (.bool b):=⟨by simp[aP]⟩
instance(n:Nat)(k:IntKind)(z:Int):BU n (.int k z):=⟨by simp[aP]⟩
instance(n:Nat)(s:Z O8):BU n (.str s):=⟨by simp[aP]⟩
instance(n:Nat):BU n .nils:=⟨by simp[aP]⟩
instance(n k st off:Nat)[q:Im k n]:BU n (.ptr k st off):=⟨by simp only[aP];exact q.h⟩
instance(n k off m c:Nat)[q:Im k n]:BU n (.sl k off m c):=⟨by simp only[aP];exact q.h⟩
instance(n k st off m:Nat)[q:Im k n]:BU n (.vl k st off m):=⟨by simp only[aP];exact q.h⟩
instance(n:Nat)(l:Z U)[q:nE n l]:BU n (.iptr l):=⟨by simp only[aP];exact q.h⟩
instance(n:Nat)(l:Z U)[q:nE n l]:BU n (.agg l):=⟨by simp only[aP];exact q.h⟩
instance(n:Nat)(l:Z U)[q:nE n l]:BU n (.tup l):=⟨by simp only[aP];exact q.h⟩
instance(n:Nat)(f:Fn)(a b:Z U)[p:nE n a][q:nE n b]:BU n (.fn f a b):=⟨by simp only[aP];exact⟨p.h,q.h⟩⟩
instance{v11:Type}(n:Nat)(t:BQ)(c:v11->Z U)(l:Z v11)[q:BF c]:BU n (.isl t (l.map c)):=⟨by simp only[aP];exact uJ c (q.h n) l⟩
instance(n:Nat)(t:BQ):BU n (.isl t []):=⟨by simp[aP,jO]⟩
class BS(n:Nat)(l:Z (Nat×U)):Prop where
 h:BelS n l
instance(n:Nat):BS n []:=⟨by simp[BelS]⟩
instance(n i:Nat)(u:U)(l:Z (Nat×U))[a:BU n u][b:BS n l]:BS n ((i,u)::l):=⟨by simp only[BelS];exact⟨a.h,b.h⟩⟩
class BFU{v11:Type}(f:v11->U):Prop where
 h:∀n x,aP n (f x)
class BB(n:Nat)(b:B):Prop where
 h:BelB n b
instance(n:Nat)(l:Z U)(e:O)[q:nE n l]:BB n (.row l e):=⟨by simp only[BelB];exact q.h⟩
instance(n:Nat)(l:Z U)(e:O)(sz st:Nat)[q:nE n l]:BB n (.vec l e sz st):=⟨by simp only[BelB];exact q.h⟩
class BH(n:Nat)(h:Z (Nat×B)):Prop where
 h:DX n h
instance(n:Nat):BH n []:=⟨by simp[DX]⟩
instance(n k:Nat)(b:B)(h:Z (Nat×B))[p:BB n b][q:BH n h]:BH n ((k,b)::h):=⟨by simp only[DX];exact⟨p.h,q.h⟩⟩
variable{n0:Nat}
variable{X:Sg}
def Gh.toC{n1 n:Nat}{l l':Z (Nat×U)}{h':Z (Nat×B)}(ht:IQ l l')(hs:Vx.cut n1 X.h=h')(h1:n0<=n1)(h2:n1<=X.nx)[hb:BS n1 l'][hh:BH n1 h']:Gh n0 (fr n l) X (fr n l') ⟨h',n1⟩:=Gh.toS ht (by rw[hs]) h1 h2 hb.h hh.h
variable{tm:Z U}
def DJ(u:U)(ht:tm=[u])[q:BU 0 u]:Gh 0 tm X [u] ⟨[],0⟩:=by
 subst ht;refine Gh.to (n1:=0) [] rfl ?_ (zF _) (Nat.zero_le _) (by simp only[aF];exact⟨q.h,trivial⟩) (by simp[DX]);have:∀h:Z (Nat×B),Vx.cut 0 h=[]:=by
  intro h;induction h with
  |nil=>rfl|cons x h ih=>obtain⟨k,b⟩:=x;simp only[Vx.cut,ih];rfl
 rw[this]
variable{P:Uz}
variable{f:FuncId}
def aV.pure1C{args:Z U}{u:U}(h:aV P f args ⟨[],0⟩ (fun u' _=>u'=u/\aP 0 u'))[q:nE 0 args](X:Sg):aV P f args X (fun u' X'=>u'=u/\X'=X):=aV.pure1 h q.h X
def ER{args args':Z U}{u:U}(h:o3 args args')(jT:∀s,aV P f args' s (fun u' X'=>u'=u/\X'=s))(X:Sg):aV P f args X (fun u' X'=>u'=u/\X'=X):=aV.ghost (Gh.wk h) (zF _) (jT X)
class Stp(v10:Prop)(B:outParam Prop):Prop where
 h:B->v10
section
variable{Q:Exit->Z U->Sg->Prop}{K:Z U->Sg->Prop}{tm:Z U}{X:Sg}{i j n0:Nat}{E:Z U->Sg->Prop}
instance:Stp (BT K Q .normal tm X) (K tm X):=⟨q1⟩
instance:Stp (BT K Q (.exit i) tm X) (Q (.exit i) tm X):=⟨q2⟩
instance:Stp (BT K Q .ret tm X) (Q .ret tm X):=⟨q3⟩
instance:Stp (xB i Q .normal tm X) (Q .normal tm X):=⟨q4⟩
instance:Stp (xB i Q .ret tm X) (Q .ret tm X):=⟨q5⟩
instance:Stp (xB i Q (.exit i) tm X) (Q .normal tm X):=⟨q6⟩
instance:Stp (PO n0 E Q .normal tm X) (∃tm' X',E tm' X'/\n0<=X'.nx/\Gh n0 tm X tm' X'):=⟨q8⟩
instance:Stp (PO n0 E Q .ret tm X) (Q .ret tm X):=⟨q9⟩
end
variable{C:PG}
def sq{Q:Exit->Z U->Sg->Prop}{p q:Code}(h:WPU C n0 p tm X (BT (fun tm X=>WPU C n0 q tm X Q) Q)):WPU C n0 (.seq p q) tm X Q:=WPU.seq h
section
variable{P:Uz}{T:Tb}{aA r:Z Oper}{n:Nat}{l:Z (Nat×U)}{X:Sg}{K:Z U->Sg->Prop}{u:U}
def RS.mv{o:Oper}{x:Jp}(hw:cA aA (fr n l) o=some true)(ho:o.op=.move x)(hx:bO n l x=some u){d:Tmp}(he:o.dst=some d)(hk:RU C T aA r (fr n ((d,u)::l)) X K)(hd:Nat.blt d n=true:=by rfl):RU C T aA (o::r) (fr n l) X K:=RS.op hw (by rw[ho];exact mW hx) he hd hk
def RS.as{o:Oper}{x:Jp}(hw:cA aA (fr n l) o=some true)(ho:o.op=.assign x)(hx:bO n l x=some u){d:Tmp}(he:o.dst=some d)(hk:RU C T aA r (fr n ((d,u)::l)) X K)(hd:Nat.blt d n=true:=by rfl):RU C T aA (o::r) (fr n l) X K:=RS.op hw (by rw[ho];exact qq4 hx) he hd hk
end
section
variable{P:Uz}{T:Tb}{aA r:Z Oper}{o:Oper}{n:Nat}{l:Z (Nat×U)}{X:Sg}{aY:Z RK}{K:Z RK->Z U->Sg->Prop}{u:U}
def RD.mv{x:Jp}(hw:cA aA (fr n l) o=some true)(ho:o.op=.move x)(hx:bO n l x=some u){d:Tmp}(he:o.dst=some d)(hk:RH P T aA r (fr n ((d,u)::l)) X ((1,⟨fr n l,o,u,false,false,X,X⟩)::aY) K)(hd:Nat.blt d n=true:=by rfl):RH P T aA (o::r) (fr n l) X aY K:=RD.look hw (by rw[ho];exact mW hx) he hd hk
end
class ml(a b:Nat):Prop where
 h:¬ a=b
instance{b:Nat}:ml 0 (b+1):=⟨by omega⟩
instance{a b:Nat}[q:ml a b]:ml (a+1) (b+1):=⟨by have:=q.h;omega⟩
instance{Q:Exit->Z U->Sg->Prop}{tm:Z U}{X:Sg}{i j:Nat}[h:ml j i]:Stp (xB i Q (.exit j) tm X) (Q (.exit j) tm X):=⟨q7 h.h⟩
def gq{v10 B:Prop}[s:Stp v10 B](h:B):v10:=s.h h
def CD(T:Tb):Z Field->I (Z (Nat×Nat))
 |[]=>some []|f::fs=>match c6 T f.type,CD T fs with
  |some n,some l=>some ((f.offset,n)::l)|_,_=>none
def qzg{T:Tb}:∀{fs:Z Field}{pl:Z (Nat×Nat)},CD T fs=some pl->FU T fs=true/\∀i,JT T fs i=nth pl i
 |[],pl,h=>by simp[CD]at h;subst h;exact⟨rfl,fun i=>rfl⟩
 |f::fs,pl,h=>by
  simp only[CD]at h;rcases h1:c6 T f.type with _|n;simp[h1]at h;rcases h2:CD T fs with _|l;simp[h1,h2]at h;simp only[h1,h2,zA]at h;subst h;obtain⟨g1,g2⟩:=qzg h2;refine⟨by simp[FU,h1,g1],fun i=>?_⟩;cases i with
  |zero=>simp[JT,nth,h1]|succ i=>exact g2 i
structure BdT(T:Tb)(t:O)(zu:Z U)(pl:Z (Nat×Nat)):Prop where
 bd:∀{qs:Z (Nat×U)}{cs:Z U},pT (nth pl) zu qs=some cs->okL cs=true->En T t qs=some (.agg cs)
variable{t:O}
variable{b:Nat}
variable{z:A}
variable{zu:Z U}
def wG{T:Tb}{fs:Bo Field}{a:Nat}{pl:Z (Nat×Nat)}(hd:T.und t=some (.struct fs))(hi:T.inf t=some (a,b,z))(hz:nH z.cells.toList=some zu)(hp:CD T fs.toList=some pl):BdT T t zu pl:=⟨fun{qs cs} hf hk=>by
 obtain⟨g1,g2⟩:=qzg hp;have:JT T fs.toList=nth pl:=funext g2;simp only[En,hi,hz,hd,g1,zC,this,hf,hk]⟩
section
variable{T:Tb}{X X':Sg}{n:Nat}{l:Z (Nat×U)}{u v w:U}
variable{ps:Bo (Nat×Jp)}
variable{qs:Z (Nat×U)}
variable{cs:Z U}
def z5r{pl:Z (Nat×Nat)}(h:BdT T t zu pl)(he:AB n l ps.toList=some qs)(hf:pT (nth pl) zu qs=some cs)(hk:okL cs=true):bF T X (fr n l) (.build t ps)=some (.agg cs,X):=QB he (h.bd hf hk)
variable{e:O}
variable{sz:Nat}
def FW{k:Nat}(hd:T.und t=some (.slice e))(hi:T.inf e=some (sz,b,z))(h:AB n l ps.toList=some qs)(h1:Nat.ble (k*sz) 16777216=true)(h2:Nat.ble k 16777216=true)(h3:Nat.beq z.cells.toList.length sz=true)(hz:nH z.cells.toList=some zu)(hf:pT (fun i=>some (i*sz,sz)) (qV zu k) qs=some cs)(hk:okL cs=true):bF T X (fr n l) (.buildSlice t k ps)=some (.sl X.nx 0 k k,newU X (.row cs e)):=Qo h (by simp only[Nr,hd,hi,h1,h2,h3,zC,hz,hf,hk])
def sK.bs{k:Nat}{rs:Z (Z U)}(hd:T.und t=some (.slice e))(hi:T.inf e=some (sz,b,z))(h:AB n l ps.toList=some qs)(h1:Nat.ble (k*sz) 16777216=true)(h2:Nat.ble k 16777216=true)(h3:Nat.beq z.cells.toList.length sz=true)(hz:nH z.cells.toList=some zu)(hf:pT (fun i=>some (i*sz,sz)) (qV zu k) qs=some cs)(hk:okL cs=true)(hl:Nat.ble (k*sz) cs.length=true)(hr:bR sz k cs=rs)[hb:nE 0 cs]:sK P T (fr n l) (.buildSlice t k ps) (.isl false rs):=
 .inr ⟨k,sz,cs,e,fun X=>FW hd hi h h1 h2 h3 hz hf hk,zY hl,fun m _=>aF.le (Nat.zero_le _) _ hb.h,by rw[hr]⟩
variable{a:Int}
variable{k':IntKind}
def YP(k:IntKind){b:Int}(h:¬ b<0):jF .shr k a k' b=some (.int k (a.fdiv (2^(min b.toNat k.bits)))):=by simp[jF,h]
def YQ(k:IntKind){b:Int}(h:¬ b<0):jF .shl k a k' b=some (.int k (k.wrap (a*2^(min b.toNat k.bits)))):=by simp[jF,h]
def ba(c:v11->Z U)(z:v11){x y:Jp}{k:IntKind}{by_:Nat}{zv:A}(hx:bO n l x=some (.int k a))(hy:bO n l y=some (.int k' a))(hd:T.und t=some (.slice e))(hi:T.inf e=some (sz,by_,zv))(hz:nH zv.cells.toList=some zu)(hk:okL zu=true)(vp:oU zu=c z)(hl:Nat.beq zv.cells.toList.length sz=true)(hr:0<=a/\by_*a.toNat<=281474976710656/\a<=281474976710656):bF T X (fr n l) (.makeSlice t x y)=some (.sl X.nx 0 a.toNat a.toNat,newU X (.row ((List.replicate a.toNat z).map c).flatten e)):=by
 have Hs:qV (c z) a.toNat=((List.replicate a.toNat z).map c).flatten:=by simp[qV]
 refine Qn hx hy ?_;simp only[Kw,hd,hi,hz,hk,hl,zC,hr.1,hr.2.1,hr.2.2,Int.le_refl,and_self,if_true,vp,Hs]
variable{K:Nat}
variable{m:Nat}
variable{xs:Z v11}
def FQ{q:Nat}{k:IntKind}(hd:T.und t=some (.slice e))(hs:c6 T e=some sz)(hv:live X K 0=true)(hx:nR xs 0 m i=some x):AH T X t (.sl K 0 m q) (.int k i)=some (.ptr K 0 (0*sz+i.toNat*sz)):=by obtain⟨h1,h2,_⟩:=QD hx;simp only[AH,hd,hs,hv,zC,h1,h2,and_self,if_true,Nat.zero_mul]
def Q0(c:v11->Z U){e':O}{d:TypeDesc}{o:Jp}(f:v11->U)(hd:T.und t=some d)(ha:p9 d=false)(hc:∀x,c x=[f x])(ho:bO n l o=some (.ptr K 0 (0*1+i.toNat*1)))(hv:gt X.h K=some (.row (xs.map c).flatten e'))(hx:nR xs 0 m i=some x):bF T X (fr n l) (.load t o)=some (f x,X):=by refine OQ rfl ?_;have hb:Nat.beq 0 0=true:=rfl;have hg:=V' (c:=c) (sz:=1) (fun x=>by rw[hc];rfl) (QD hx).2.2;rw[hc,Nat.add_mul]at hg;simp only[oY,dH ho,cellsOf,hv,hb,zC,E3,hd,ha,zD,qw1 hg]
def uf(c:v11->Z U){e':O}{y:v11}{o z:Jp}{h':Z (Nat×B)}(hs:c6 T t=some sz)(hc:∀x,(c x).length=sz)(ho:bO n l o=some (.ptr K 0 (0*sz+i.toNat*sz)))(hz:bO n l z=some v)(D1:uG v=some cs)(hk:okL cs=true)(hy:cs=c y)(hv:gt X.h K=some (.row (xs.map c).flatten e'))(hx:nR xs 0 m i=some x)(Z9:ug X.h K (.row ((xs.set i.toNat y).map c).flatten e')=h'):bF T X (fr n l) (.store t o z)=some (.junk,⟨h',X.nx⟩):=by
 subst hy;subst Z9;have hb:Nat.beq 0 0=true:=rfl;have hb2:Nat.beq (c y).length sz=true:=by simp[hc]
 have hj:=(zG.1 (QD hx).2.2).1;have hp:=dg hc hj y;rw[Nat.add_mul,Nat.zero_add]at hp;exact IV rfl rfl (by simp only[nS,dH ho,dH hz,WD,hs,D1,hb2,hk,zC,cellsOf,hv,hb,DN,hp,JH])
def z5j{q:Nat}(hd:T.und t=some (.slice e))(h:live X K 0=true):v7 T X t (.sl K off m q)=some (.int .i64 m):=by simp only[v7,hd,h,zC]
def Xp{c:v11->Z U}(hc:∀x,(c x).length=sz)(h:m=xs.length)(K:Nat)(e:O):fz K (.row (xs.map c).flatten e) sz (.sl K 0 m m)=.isl false (xs.map c):=by
 subst h;have hl:0+xs.length*sz<=(xs.map c).flatten.length:=by rw[C5 hc];omega
 have hk:Nat.beq K K=true:=by simp
 simp only[fz,hk,zC,hl,if_true,List.drop_zero,qju hc]
end
def aV.own1(c:v11->Z U){ys:Z v11}{e:O}{sz:Nat}{a7:Z U}[hc:BF c][ha:nE 0 a7]{k:Nat}
  (h:aV P f a7 ⟨[],0⟩ (fun u X'=>∃t',u=.vl k t' 0 ys.length/\X'=⟨[(k,.vec (ys.map c).flatten e sz t')],k+1⟩)) (X:Sg) (K:Nat) (hK:X.nx+k=K):
  aV P f a7 X (fun u X'=>∃t',u=.vl K t' 0 ys.length/\X'=⟨(K,.vec (ys.map c).flatten e sz t')::X.h,K+1⟩):=by
 subst hK;have B0:∀l:Z v11,aF 0 (l.map c).flatten:=fun l=>Fp 0 (hc.h 0) l;have h1:=aV.frame [] h X (by simp) (by simp) ha.h (by intro k b hb;simp[gt]at hb);rw[JV _ _ ha.h]at h1;refine aV.post h1 ?_;rintro u dK ⟨u0,nF,⟨t',rfl,rfl⟩,_,rfl,rfl⟩;refine⟨.vl (X.nx+k) t' 0 ys.length,⟨(X.nx+k,.vec (ys.map c).flatten e sz t')::X.h,X.nx+k+1⟩,by simp;omega,?_,t',rfl,rfl⟩;have hs:Va [] X ⟨[(k,.vec (ys.map c).flatten e sz t')],k+1⟩=⟨(X.nx+k,.vec (ys.map c).flatten e sz t')::FS [] X.h,X.nx+k+1⟩:=by simp[Va,wP,nm,rB,JV _ _ (B0 ys)];omega
 rw[hs];have:=Gh.same (n0:=X.nx) (tm:=[rU (nm [] X.nx) (.vl k t' 0 ys.length)]) (X:=⟨(X.nx+k,.vec (ys.map c).flatten e sz t')::FS [] X.h,X.nx+k+1⟩) ((X.nx+k,.vec (ys.map c).flatten e sz t')::X.h) (fun j=>by rw[aQ,aQ,Nb];by_cases hk:X.nx+k=j<;>simp[hk]);exact this
def Gh.rowW{K:Nat}{q q':Z U}{e:O}(hg:gt X.h K=some (.row q e))(hk:okL q'=true)(h:o3 q q'):Gh n0 tm X tm ⟨ug X.h K (.row q' e),X.nx⟩:=Gh.row hg hk fun x vs _ _ he=>⟨h.rel he.1,by rw[h.len];exact he.2⟩
end Go.Vx
namespace Go.Vx
open Go Go.Rx
structure MapL(K v06:Type) where
 es:Z (K×v06×Nat)
 cl:Nat
section
variable{K v06:Type}(kU:K->U)(vU:v06->U)
def mE(e:K×v06×Nat):ME:=⟨kU e.1,vU e.2.1,e.2.2⟩
structure Xd(T:Tb)(kt:O)(eq:K->K->BQ)(kV:K->A):Prop where
 v:∀k,toV (kU k)=some (kV k)
 cmp:∀a b,eqv T 50 kt (kV a) (kV b)=some (eq a b)
 key:∀k,o7 T 50 kt (kV k)=true
 pl:∀k,plain (kV k)=true
 same:∀a b,eq a b=true->A7 50 (kV b) (kV a)=true
variable{kU vU}{T:Tb}{kt:O}{eq:K->K->BQ}{kV:K->A}(hk:Xd kU T kt eq kV)
include hk
variable{X:Sg}{n:Nat}{l:Z (Nat×U)}{r:Nat}{m:MapL K v06}{t et:O}(hd:T.und t=some (.map kt et))(hg:gt X.h r=some (.map (m.es.map (mE kU vU)) m.cl))
include hd hg
end
def qz3{T:Tb}{X:Sg}{n:Nat}{l:Z (Nat×U)}{t:O}:bF T X (fr n l) (.makeMap t none)=some (.map X.nx,newU X (.map [] 0)):=IV rfl rfl rfl
def stF:Z Nat->Nat->Nat
 |[],_=>0|a::_,0=>a
 |_::l,i+1=>stF l i
def vd:Z Nat->Nat->BQ
 |[],_=>true|a::l,nx=>cond (OR l a) false (cond (Nat.blt a nx) (vd l nx) false)
def qz0:∀{l:Z Nat}{nx:Nat},vd l nx=true->l.Nodup/\∀k∈l,k<nx
 |[],nx,_=>⟨List.nodup_nil,fun k h=>by cases h⟩|a::l,nx,h=>by
  simp only[vd]at h;cases h1:OR l a with
  |true=>rw[h1]at h;cases h|false=>rw[h1,zD]at h;rcases h2:Nat.blt a nx with _|_;rw[h2]at h;cases h;rw[h2,zC]at h;obtain⟨q1,q2⟩:=qz0 h;refine⟨List.nodup_cons.2 ⟨fun hm=>?_,q1⟩,fun k hk=>?_⟩;rw[(Zx l a).2 hm]at h1;cases h1;rcases zI.1 hk with rfl |hk;exact zY h2;exact q2 k hk
def Yl(N:Nat):Z (Nat×B)->BQ
 |[]=>true|(k,_)::h=>cond (Nat.blt k N) (Yl N h) false
def IL(ns:Z Nat)(nx:Nat)(h:Z (Nat×B)):Z (Nat×B)->Prop
 |[]=>True|(k,b)::r=>gt h (nm ns nx k)=some (rB (nm ns nx) b)/\IL ns nx h r
def z69{ns:Z Nat}{nx N:Nat}{h:Z (Nat×B)}:∀{h0:Z (Nat×B)},IL ns nx h h0->Yl N h0=true->DX N h0->∀k b,gt h0 k=some b->k<N/\BelB N b/\gt h (nm ns nx k)=some (rB (nm ns nx) b)
 |[],_,_,_,k,b,hg=>by cases hg
 |(j,c)::h0,hh,hk,hb,k,b,hg=>by simp only[IL]at hh;simp only[Yl]at hk;rcases h2:Nat.blt j N with _|_;rw[h2]at hk;cases hk;rw[h2,zC]at hk;simp only[DX]at hb;simp only[gt,beq_eq]at hg;by_cases e:j=k;subst e;simp only[yC,zC,zA]at hg;subst hg;exact⟨zY h2,hb.1,hh.1⟩;simp only[e,yB,zD]at hg;exact z69 hh.2 hk hb.2 k b hg
def Dy(V:Nat->Nat)(l:Z U)[q:nE 0 l]:eM V l=l:=JV V l q.h
def Q4{v11:Type}(V:Nat->Nat)(c:v11->Z U)(l:Z v11)[q:BF c]:sG V (l.map c)=l.map c:=az V _ (uJ c (q.h 0) l)
def Yh{K v06:Type}(V:Nat->Nat)(kU:K->U)(vU:v06->U)(es:Z (K×v06×Nat))[p:BFU kU][q:BFU vU]:(es.map (mE kU vU)).map (rM V)=es.map (mE kU vU):=by rw[List.map_map];refine List.map_congr_left fun e _=>?_;simp only[Function.comp,mE,rM,th V _ (p.h 0 _),th V _ (q.h 0 _)]
def IX(ns:Z Nat)(nx N:Nat)(h:Z (Nat×B)):Z (Nat×B)->Z (Nat×B)
 |[]=>h|(k,b)::r=>cond (Nat.blt k N) (ug (IX ns nx N h r) (nm ns nx k) (rB (nm ns nx) b)) ((nm ns nx k,rB (nm ns nx) b)::IX ns nx N h r)
def OK(N:Nat)(h:Z (Nat×B)):BQ:=(List.range N).all fun k=>(gt h k).isSome
def qy5{ns:Z Nat}{nx N:Nat}{h:Z (Nat×B)}(hl:ns.length=N)(hi:∀i j,nm ns nx i=nm ns nx j->i=j)(AN:∀k,k<N->(gt h (nm ns nx k)).isSome=true)(gP:∀k,N<=k->gt h (nm ns nx k)=none):∀(r:Z (Nat×B))(k:Nat),gt (IX ns nx N h r) k=match gt (wP ns nx r) k with
  |some b=>some b|none=>gt h k
 |[],k=>by simp[IX,wP,gt]
 |(j,b)::r,k=>by
  have ih:=qy5 hl hi AN gP r;simp only[IX,wP,aQ];cases hj:Nat.blt j N with
  |true=>
   have hjN:j<N:=zY hj;simp only[zC,c7];by_cases e:nm ns nx j=k;subst e;have hs:=AN j hjN;have:(gt (IX ns nx N h r) (nm ns nx j)).isSome=true:=by rw[ih];split<;>simp_all
   rcases hg:gt (IX ns nx N h r) (nm ns nx j)with _|c;rw[hg]at this;cases this;simp;simp[e,ih]
  |false=>simp only[zD,aQ];by_cases e:nm ns nx j=k;simp[e];simp[e,ih]
def aV.st{P:Uz}{f:FuncId}{args0 args:Z U}{h0:Z (Nat×B)}{N N1:Nat}{U0 U1:(Nat->Nat)->U}{h1:(Nat->Nat)->Z (Nat×B)}{S1:(Nat->Nat)->Sg}(ns:Z Nat){X:Sg}
  (h:aV P f args0 ⟨h0,N⟩ (fun u X'=>∃t:Nat->Nat,u=U0 t/\X'=⟨h1 t,N1⟩)) [ha:nE N args0] [hb:BH N h0]
  (hn:vd ns X.nx=true:=by rfl) (hN:ns.length=N:=by rfl) (hk:Yl N h0=true:=by rfl) (oF:OK N h0=true:=by rfl) (Q?:∀t,OK N (h1 t)=true:=by intro t;rfl)
  (hh:IL ns X.nx X.h h0:=by simp only[IL,gt,Nat.beq,zC,zD,nm,rB,Dy,eM,rU,Q4,Yh,and_true,true_and]<;>first |rfl |exact⟨rfl,trivial⟩|exact⟨rfl,rfl,trivial⟩|exact⟨rfl,rfl⟩)
  (cJ:eM (nm ns X.nx) args0=args:=by(simp only[nm,Dy,eM,rU,Q4])<;>rfl)
  (hU:∀t,rU (nm ns X.nx) (U0 t)=U1 t:=by(intro t;simp only[nm,Dy,eM,rU,Q4])<;>rfl)
  (hS:∀t,(⟨IX ns X.nx N X.h (h1 t),X.nx+(N1-N)⟩:Sg)=S1 t:=by(intro t;simp only[IX,Nat.blt,Nat.ble,Nat.sub_self,Nat.add_zero,Nat.reduceAdd,Nat.reduceSub,ug,Nat.beq,zC,zD,nm,rB,Dy,eM,rU,Q4,Yh])<;>rfl):
  aV P f args X (fun u X'=>∃t:Nat->Nat,u=U1 t/\X'=S1 t):=by
 subst hN;obtain⟨g1,g2⟩:=qz0 hn;have kO:=z69 hh hk hb.h;have hi:∀i j,nm ns X.nx i=nm ns X.nx j->i=j:=fun i j h=>z5p g1 g2 h;have hA:∀{h:Z (Nat×B)},OK ns.length h=true->∀k,k<ns.length->(gt h k).isSome=true:=fun{h} he k hk=>by unfold OK at he;rw[List.all_eq_true]at he;exact he k (List.mem_range.2 hk)
 have AN:∀k,k<ns.length->(gt X.h (nm ns X.nx k)).isSome=true:=fun k hk=>by have:=hA oF k hk;rcases hg:gt h0 k with _|b;rw[hg]at this;cases this;rw[(kO k b hg).2.2];rfl
 intro F x vs m w cargs hx hh' fP he eG tV;have gP:∀k,ns.length<=k->gt X.h (nm ns X.nx k)=none:=fun k hk=>by rcases hg:gt X.h (nm ns X.nx k)with _|b;rfl;have h2:=(hh'.ok (nm ns X.nx k) b (by rw[hx];exact hg)).1;rw[hx,JJ ns X.nx k hk]at h2;omega
 have h3:=aV.frame ns h X g1 g2 ha.h kO;rw[cJ]at h3;have h4:aV P f args X (fun u X'=>∃t:Nat->Nat,u=U1 t/\X'=S1 t):=aV.post h3 ?_;exact h4 F x vs m w cargs hx hh' fP he eG tV;rintro u X' ⟨u0,nF,⟨t,rfl,rfl⟩,pG,rfl,rfl⟩;refine⟨U1 t,S1 t,?_,?_,t,rfl,rfl⟩;rw[<-hS t];exact Nat.le_add_right _ _;rw[<-hS t,<-hU t];refine Gh.same (n0:=X.nx) (tm:=[rU (nm ns X.nx) (U0 t)]) (X:=Va ns X ⟨h1 t,N1⟩) (IX ns X.nx ns.length X.h (h1 t)) (fun k=>?_);show _=gt (wP ns X.nx (h1 t)++FS ns X.h) k;rw[qy5 rfl hi AN gP,fu,Nb];cases hg:gt (wP ns X.nx (h1 t)) k with
 |some b=>rfl|none=>by_cases hkn:k∈ns;exfalso;obtain⟨j,hj,e⟩:=List.getElem_of_mem hkn;obtain⟨_,e2⟩:=FP ns X.nx j hj;rw[e]at e2;rw[<-e2,U' hi]at hg;have:=hA (Q? t) j hj;rcases NW:gt (h1 t) j with _|c;rw[NW]at this;cases this;rw[NW]at hg;cases hg;rw[if_neg hkn]
end Go.Vx
