import Derived.Test.YtmflfedkfdkipaaGreatP17
set_option linter.all false
namespace Go.Proofs
open Go Go.Rx Go.Vx Go.Shelf Go.Sort
set_option maxRecDepth 10000
abbrev Str:=X Yv
def iL{v12 S R:Type}{l:X v12}(hl:l.length<=9223372036854775807){F:Nat->Int->S->V R}(v09:Nat->S->Prop){Q:R->Prop}
  (h:∀(m i:Nat)(x:v12)(s:S),l[i]? = some x->i<l.length->decide ((i:Int)<(l.length:Int))=true->IntKind.i64.wrap ((i:Int)+1)=((i+1:Nat):Int)->v09 i s->(∀s',v09 (i+1) s'->∃r,F m ((i+1:Nat):Int) s'=some r/\Q r)->∃r,F (m+1) (i:Int) s=some r/\Q r) (hK:∀(m:Nat)(s:S),decide ((l.length:Int)<(l.length:Int))=false->v09 l.length s->∃r,F (m+1) (l.length:Int) s=some r/\Q r):
  ∀(m i:Nat)(s:S),l.length-i<m->i<=l.length->v09 i s->∃r,F m (i:Int) s=some r/\Q r
 |0,i,s,hm,_,_=>by omega
 |m+1,i,s,hm,hi,hs=>by
  by_cases aE:i<l.length;obtain⟨x,hx,_⟩:=fP aE;exact h m i x s hx aE (jB aE) (kX aE hl) hs fun s' hs'=>iL hl v09 h hK m (i+1) s' qq0 qq0 hs';have:i=l.length:=by omega
  subst this;exact hK m s (jV qq0) hs
def fW{β:Type}{p:Prop}[Decidable p]{k:V β}(h:p):aF p k=k:=if_pos h
def beqF{a b:Str}(h:a≠b):lO a b=false:=by rcases e:lO a b with _|_;rfl;exact absurd ((v? _ _).1 e) h
def JK(a b:Str):lO a b=decide (a=b):=by by_cases h:a=b;rw[(v? _ _).2 h];simp[h];rw[beqF h];simp[h]
variable{v12:Type}
variable{l:X v12}
def z7b{a b:Nat}(h1:a<=b)(h2:b<=l.length):w7 l (a:Int) (b:Int)=some ((l.drop a).take (b-a)):=by
 unfold w7;have:0<=(a:Int)/\(a:Int)<=(b:Int)/\(b:Int)<=(l.length:Int):=by omega
 simp[this,List.drop_take]
def zg{b:Nat}(h2:b<=l.length):w7 l 0 (b:Int)=some (l.take b):=by
 have:=z7b (l:=l) (Nat.zero_le b) h2
 rwa [zV,List.drop_zero,Nat.sub_zero]at this
def Zh{a:Nat}(h2:a<=l.length):w7 l (a:Int) (l.length:Int)=some (l.drop a):=by
 have:=z7b (l:=l) h2 (zF _)
 rwa [zW qq4]at this
def za2(n:Nat)(z:Int)(b:PE):∃r,Qb n z b=some r:=by simp only[Qb,YU,vq,Qt];cases decide (z>=48)<;>cases decide (z<=57)<;>cases (z==45)<;>cases b<;>cases decide (z>=65)<;>cases decide (z<=90)<;>cases decide (z>=97)<;>cases decide (z<=122)<;>exact⟨_,rfl⟩
variable{s:Str}
def qwm{i:Nat}{x:Yv}(h:s[i]? = some x):XS s (i:Int)=some (x.toNat:Int):=by
 have:=(zG.1 h).1;have h2:0<=(i:Int)/\(i:Int)<(s.length:Int):=by omega
 simp[XS,h2,h]
variable{n:Nat}
def qvo(s:Str)(b:PE)(hn:40<=n):∃r,Ij n s b=some r/\(r=true->0<s.length/\s.length<=32):=by
 unfold Ij;by_cases h1:(s.length:Int)<1;simp only[h1,yC,zC,aM];exact⟨false,rfl,fun h=>by cases h⟩;by_cases h2:(s.length:Int)>32;simp only[h1,h2,yC,yB,zC,zD,aM];exact⟨false,rfl,fun h=>by cases h⟩;obtain⟨x,hx,_⟩:=fP (show 0<s.length by omega);have h3:=qwm hx;rw[zV]at h3;have hd:∃r,YU n (x.toNat:Int)=some r:=by unfold YU;cases decide ((x.toNat:Int)>=48)<;>exact⟨_,rfl⟩
 obtain⟨c,hc⟩:=hd;have key:=iL (l:=s) qq0 (F:=fun m z (_:Unit)=>ZB s b n m z) (fun _ _=>True) (Q:=fun r=>True)
  (fun m i x _ hx aE hd hw _ ih=>by obtain⟨r,hr⟩:=za2 n (x.toNat:Int) b;obtain⟨q,hq,_⟩:=ih () trivial;simp only[ZB,hd,zC,qwm hx,aM,hr,hw];rcases r with _|_;exact⟨_,rfl,trivial⟩;exact⟨q,hq,trivial⟩)
  (fun m _ hd _=>by simp only[ZB,hd,zD,ul];exact⟨_,rfl,trivial⟩) n 0 () qq0 qq0 trivial
 obtain⟨q,hq,_⟩:=key;rw[zV]at hq;simp only[h1,h2,yB,zD,h3,aM,hc];cases c with
 |true=>simp only[zC,aM];exact⟨false,rfl,fun h=>by cases h⟩|false=>simp only[zD,aM];rcases((x.toNat:Int)==45)with _|_;exact⟨q,hq,fun _=>qq0⟩;exact⟨false,rfl,fun h=>by cases h⟩
def z7g{d:X bG}(hd:d.length<=1000000){s:Str}:∀(m i:Nat),d.length-i<m->i<=d.length->
  (∃j x,i<=j/\d[j]? = some x/\x.Name=s/\(∀k y,i<=k->k<j->d[k]? = some y->y.Name≠s)/\YZ d s m i=some (j:Int))\/((∀x∈d.drop i,x.Name≠s)/\YZ d s m i=some (-1))
 |0,i,hm,_=>by omega
 |m+1,i,hm,hi=>by unfold YZ;by_cases aE:i<d.length;obtain⟨x,hx,_⟩:=fP aE;simp only[jB aE,zC,cP,hx,aM,kX aE (show d.length<=9223372036854775807 by omega),JK];by_cases hb:x.Name=s;simp only[hb,yC,zC];exact .inl ⟨i,x,zF _,hx,hb,fun k y h1 h2=>qq0,rfl⟩;simp only[hb,yB,zD];rcases z7g hd (s:=s) m (i+1) qq0 qq0 with⟨j,y,h1,h2,h3,h4,h5⟩|⟨h1,h2⟩;refine .inl ⟨j,y,by omega,h2,h3,fun k z Ci jS hz=>?_,h5⟩;by_cases e:k=i;subst e;rw[hx]at hz;cases hz;exact hb;exact h4 k z qq0 jS hz;refine .inr ⟨fun y hy=>?_,h2⟩;rw[aX hx]at hy;rcases zI.1 hy with rfl |hy;exact hb;exact h1 y hy;simp only[jV aE,zD,ld,bW aE];exact .inr ⟨fun x hx=>(List.not_mem_nil hx).elim,by simp⟩
variable{d:X bG}
def jm(hd:d.length<=1000000)(s:Str)(hn:d.length<n):
  (∃(j:Nat)(x:bG),d[j]? = some x/\x.Name=s/\(∀k y,k<j->d[k]? = some y->y.Name≠s)/\HB n d s=some (j:Int))\/((∀x∈d,x.Name≠s)/\HB n d s=some (-1)):=by rcases z7g hd (s:=s) n 0 qq0 qq0 with⟨j,y,_,h2,h3,h4,h5⟩|⟨h1,h2⟩;exact .inl ⟨j,y,h2,h3,fun k z hk hz=>h4 k z qq0 hk hz,h5⟩;exact .inr ⟨by rw[List.drop_zero]at h1;exact h1,h2⟩
def qyk{l:X Str}(hl:l.length<=1000000){s:Str}:∀(m i:Nat),l.length-i<m->i<=l.length->Jg l s m i=some (decide (s∈l.drop i))
 |0,i,hm,_=>by omega
 |m+1,i,hm,hi=>by unfold Jg;by_cases aE:i<l.length;obtain⟨x,hx,_⟩:=fP aE;simp only[jB aE,zC,cP,hx,aM,aX hx,zI,kX aE (show l.length<=9223372036854775807 by omega),JK];by_cases e:x=s;simp[e];have e':¬ s=x:=fun h=>e h.symm;simp only[e,e',yB,zD,false_or];exact qyk hl m (i+1) qq0 qq0;simp only[jV aE,zD,uf,bW aE,List.not_mem_nil,yB]
variable{l:X Str}
def NM(hl:l.length<=1000000)(s:Str)(hn:l.length<n):FH n l s=some (decide (s∈l)):=by have:=qyk hl (s:=s) n 0 qq0 qq0;rw[zV,List.drop_zero]at this;exact this
def eX(l:X Str):Prop:=l.Pairwise fun a b=>kD a b=true
def eX.nodup(h:eX l):l.Nodup:=h.imp fun{a b} h e=>by subst e;rw[qga]at h;cases h
def z89(hl:l.length<=1000000)(ha:eX l){j:Nat}(hj:j<=l.length)(hb:∀x∈l.take j,kD x s=true)(hx:∀x,l[j]? = some x->kD x s=false):∃out,Qy l s j=some out/\(∀x,x∈out↔x=s\/x∈l)/\out.length<=l.length+1/\eX out:=by
 unfold Qy;have tl:(l.take j).length=j:=by simp;omega
 have dl:(l.drop j).length=l.length-j:=by simp
 have ins:(∀x∈l.drop j,kD s x=true)->∃out,(a8 (w7 l 0 (j:Int)) fun iC=>
  aF (iC.length*16<=140737488355328/\iC.length<=140737488355328) (
  aF ((iC.length+1)*16<=140737488355328/\iC.length+1<=140737488355328) (
  a8 (w7 l (j:Int) (l.length:Int)) fun gQ=>
  aF (((iC++[s]).length+gQ.length)*16<=140737488355328/\(iC++[s]).length+gQ.length<=140737488355328) (
  some ((iC++[s])++gQ)))))=some out/\(∀x,x∈out↔x=s\/x∈l)/\out.length<=l.length+1/\eX out:=by
  intro hd;refine⟨(l.take j++[s])++l.drop j,?_,fun x=>?_,by simp;omega,?_⟩;rw[zg hj,aM,fW (by rw[tl];omega),fW (by rw[tl];omega),Zh hj,aM,fW (by rw[zU,tl,dl];simp;omega)];have:=List.take_append_drop j l;constructor;intro h;simp only[yD,List.mem_singleton]at h;rcases h with(h |h)|h;exact .inr (List.mem_of_mem_take h);exact .inl h;exact .inr (List.mem_of_mem_drop h);rintro(h |h);simp[h];rw[<-this]at h;simp only[yD]at h ⊢;rcases h with h |h;exact .inl (.inl h);exact .inr h;unfold eX at*;rw[<-List.take_append_drop j l,List.pairwise_append]at ha;rw[List.pairwise_append,List.pairwise_append];refine⟨⟨ha.1,by simp,fun a h1 b h2=>by simp at h2;subst h2;exact hb a h1⟩,ha.2.1,fun a h1 b h2=>?_⟩;rcases yD.1 h1 with h1 |h1;exact ha.2.2 a h1 b h2;simp at h1;subst h1;exact hd b h2
 by_cases aE:j<l.length;obtain⟨x,gf,g8⟩:=fP aE;have h1:=hx x gf;simp only[jB aE,zC,cP,gf,aM,JK];by_cases e:x=s;subst e;simp only[yC,zC];exact⟨l,rfl,fun y=>⟨fun h=>.inr h,fun h=>h.elim (fun h=>h ▸ g8) id⟩,by omega,ha⟩;simp only[e,yB,zD];have h2:kD s x=true:=by rcases h3:kD s x with _|_;exact absurd (qhf x s h1 h3) e;rfl
 refine ins fun y hy=>?_;rw[aX gf]at hy;rcases zI.1 hy with rfl |hy
 exact h2;have:l=l.take (j+1)++l.drop (j+1):=(List.take_append_drop _ _).symm;unfold eX at ha;rw[this,List.pairwise_append]at ha;exact qhg _ _ _ h2 (ha.2.2 x (by rw[jG gf];simp) y hy);simp only[jV aE,zD,aM];exact ins fun y hy=>by rw[bW aE]at hy;cases hy
def SO{l:X Str}(hl:l.length<=1000000)(ha:eX l){s:Str}:∀(m i:Nat),l.length-i<m->i<=l.length->(∀x∈l.take i,kD x s=true)->∃out,Ip l s m i=some out/\(∀x,x∈out↔x=s\/x∈l)/\out.length<=l.length+1/\eX out
 |0,i,hm,_,_=>by omega
 |m+1,i,hm,hi,hb=>by
  unfold Ip;by_cases aE:i<l.length;obtain⟨x,hx,_⟩:=fP aE;simp only[jB aE,zC,cP,hx,aM,kX aE (show l.length<=9223372036854775807 by omega)];cases zP:kD x s with
  |true=>
   simp only[zC];refine SO hl ha m (i+1) qq0 qq0 fun y hy=>?_;rw[jG hx]at hy;rcases yD.1 hy with hy |hy
   exact hb y hy;simp at hy;subst hy;exact zP
  |false=>simp only[zD];exact z89 hl ha hi hb fun y hy=>by rw[hx]at hy;cases hy;exact zP
  simp only[jV aE,zD,aM];exact z89 hl ha hi hb fun y hy=>by have:=(zG.1 hy).1;omega
def Gz(hl:l.length<=1000000)(ha:eX l)(s:Str)(hn:l.length<n):∃out,NQ n l s=some out/\(∀x,x∈out↔x=s\/x∈l)/\out.length<=l.length+1/\eX out:=by have:=SO hl ha (s:=s) n 0 qq0 qq0 qq4;rw[zV]at this;exact this
structure w9(l0 l:X Str)(out:X Str):Prop where
 mem:∀x,x∈out↔x∈l0\/x∈l
 len:out.length<=l0.length+l.length
 asc:eX out
def w9.next{l0 out oQ:X Str}(h:w9 l0 l out)(h1:∀x,x∈oQ↔x=s\/x∈out)(h2:oQ.length<=out.length+1)(h3:eX oQ):w9 l0 (l++[s]) oQ:=by refine⟨fun x=>?_,by have:=h.len;simp;omega,h3⟩;rw[h1,h.mem];simp only[yD,List.mem_singleton];constructor;rintro(h |h |h);exact .inr (.inr h);exact .inl h;exact .inr (.inl h);rintro(h |h |h);exact .inr (.inl h);exact .inr (.inr h);exact .inl h
def w9.nil(h:eX l):w9 l [] l:=⟨fun x=>qq4,by simp,h⟩
def names_ok(hd:d.length<=1000)(hn:5000<=n):∃out,Qo n d=some out/\w9 [] (d.map bG.Name) out:=by
 have:=iL (l:=d) qq0 (F:=fun m z s=>ZA d n m s z) (fun i s=>w9 [] ((d.take i).map bG.Name) s) (Q:=fun out=>w9 [] (d.map bG.Name) out)
  (fun m i x s hx aE bH hw hI ih=>by have hl:=hI.len;simp at hl;obtain⟨o,h1,h2,h3,h4⟩:=Gz (l:=s) qq0 hI.asc x.Name (show s.length<n by omega);simp only[ZA,bH,zC,cP,hx,aM,h1,hw];exact ih o (by rw[jG hx,List.map_append];exact hI.next h2 h3 h4))
  (fun m s bH hI=>by simp only[ZA,bH,zD,mz];rw[zW (zF _)]at hI;exact⟨s,rfl,hI⟩) n 0 [] qq0 qq0 (w9.nil List.Pairwise.nil)
 rw[zV]at this;exact this
def z6d(hd:d.length<=12)(hn:5000<=n):∃e,Qn n d=some e/\(e=0->∀x∈d,x.Supers.length<=256/\x.Feats.length<=256):=by
 have:=iL (l:=d) qq0 (F:=fun m z (_:Unit)=>Z7 d m z) (fun i _=>∀x∈d.take i,x.Supers.length<=256/\x.Feats.length<=256) (Q:=fun e=>e=0->∀x∈d,x.Supers.length<=256/\x.Feats.length<=256)
  (fun m i x _ hx aE bH hw hI ih=>by
   simp only[Z7,bH,zC,cP,hx,aM,hw];by_cases h1:(x.Supers.length:Int)>256;simp only[h1,yC,zC,aM];exact⟨7,rfl,fun h=>by cases h⟩;by_cases h2:(x.Feats.length:Int)>256;simp only[h1,h2,yC,yB,zC,zD,aM];exact⟨7,rfl,fun h=>by cases h⟩;simp only[h1,h2,yB,zD,aM];refine ih () fun y hy=>?_;rw[jG hx]at hy;rcases yD.1 hy with hy |hy
   exact hI y hy;simp at hy;subst hy;omega)
  (fun m _ bH hI=>by simp only[Z7,bH,zD,mn];rw[zW (zF _)]at hI;exact⟨0,rfl,fun _=>hI⟩) n 0 () qq0 qq0 qq4
 rw[zV]at this;have h:¬ (d.length:Int)>256:=by omega
 simp only[Qn,h,yB,zD];exact this
def z9s(s:Str)(hn:40<=n):∃r,Qc n s=some r/\(r=true->0<s.length/\s.length<=32):=by obtain⟨r,h1,h2⟩:=qvo s false hn;exact⟨r,by simp[Qc,h1,aM],h2⟩
structure Ol(d:X bG):Prop where
 nod:(d.map bG.Name).Nodup
 len:∀x∈d,0<x.Name.length/\x.Name.length<=32
def qz7(hd:d.length<=12)(hn:5000<=n):∃e,vn n d=some e/\(e=0->Ol d):=by
 have:=iL (l:=d) qq0 (F:=fun m z (_:Unit)=>Z9 d n m z) (fun i _=>Ol (d.take i)) (Q:=fun e=>e=0->Ol d)
  (fun m i x _ hx aE bH hw hI ih=>by obtain⟨r,h1,h2⟩:=z9s x.Name (show 40<=n by omega);simp only[Z9,bH,zC,cP,hx,aM,hw,h1];rcases r with _|_;exact⟨1,rfl,fun h=>by cases h⟩;simp only[Bool.not_true,zD];rcases jm (d:=d) qq0 x.Name (show d.length<n by omega)with⟨j,y,g1,g2,g3,g4⟩|⟨g1,g2⟩;simp only[g4,aM];by_cases hj:(j:Int)<(i:Int);simp only[hj,yC,zC];exact⟨4,rfl,fun h=>by cases h⟩;simp only[hj,yB,zD];refine ih () ?_;rw[jG hx];refine⟨?_,fun z hz=>?_⟩;rw[List.map_append,List.nodup_append];refine⟨hI.nod,by simp,fun a ha b hb e=>?_⟩;simp at hb;subst hb;obtain⟨z,hz,e2⟩:=List.mem_map.1 ha;obtain⟨k,hk,e3⟩:=List.mem_iff_getElem.1 hz;rw[List.length_take]at hk;rw[List.getElem_take]at e3;exact g3 k z qq0 (by rw[List.getElem?_eq_getElem qq0,e3]) (e2.trans e);rcases yD.1 hz with hz |hz;exact hI.len z hz;simp at hz;subst hz;exact h2 rfl;exact absurd rfl (g1 x (zX hx)))
  (fun m _ bH hI=>by simp only[Z9,bH,zD,mu];rw[zW (zF _)]at hI;exact⟨0,rfl,fun _=>hI⟩) n 0 () qq0 qq0 ⟨by simp,by simp⟩
 rw[zV]at this;exact this
def kW(d:X bG)(s:Str):Prop:=∃x∈d,x.Name=s
def t_(hd:d.length<=1000000)(h:kW d s)(hn:d.length<n):∃(j:Nat)(x:bG),d[j]? = some x/\x.Name=s/\HB n d s=some (j:Int):=by rcases jm hd s hn with⟨j,x,h1,h2,_,h4⟩|⟨h1,_⟩;exact⟨j,x,h1,h2,h4⟩;obtain⟨x,hx,e⟩:=h;exact absurd e (h1 x hx)
def JO(d:X bG)(x:bG):Prop:=(∀s∈x.Supers,kW d s)/\x.Supers.Nodup
def z34(hd:d.length<=12)(hs:∀x∈d,x.Supers.length<=256)(hn:5000<=n):∃e,yg n d=some e/\(e=0->∀x∈d,JO d x):=by
 have:=iL (l:=d) qq0 (F:=fun m z (_:Unit)=>LH d n m z) (fun i _=>∀x∈d.take i,JO d x) (Q:=fun e=>e=0->∀x∈d,JO d x)
  (fun m i x _ hx aE bH hw hI ih=>by
   have g8:=zX hx;have hxs:=hs x g8;simp only[LH,bH,zC,cP,hx,aM];have:=iL (l:=x.Supers) qq0 (F:=fun m' z (_:Unit)=>ZF d n i (LH d n m) x m' z) (fun k _=>(∀s∈x.Supers.take k,kW d s)/\(x.Supers.take k).Nodup) (Q:=fun e=>e=0->∀x∈d,JO d x)
    (fun m' k s _ hsx rK dL mF iV kO=>by
     simp only[ZF,dL,zC,cP,hsx,aM,mF];rcases jm (d:=d) qq0 s (show d.length<n by omega)with⟨j,y,g1,g2,g3,g4⟩|⟨g1,g2⟩;have hj:¬ (j:Int)<0:=by omega
     have lU:=NM (l:=x.Supers.take k) (by simp;omega) s (n:=n) (by simp;omega);simp only[g4,aM,hj,yB,zD,zg (show k<=x.Supers.length by omega),lU];by_cases hm:s∈x.Supers.take k;simp only[hm,yC,zC];exact⟨4,rfl,fun h=>by cases h⟩;simp only[hm,yB,zD];refine kO () ?_;rw[jG hsx];refine⟨fun t ht=>?_,?_⟩;rcases yD.1 ht with ht |ht;exact iV.1 t ht;simp at ht;subst ht;exact⟨y,zX g1,g2⟩;rw[List.nodup_append];exact⟨iV.2,by simp,fun a ha b hb e=>by simp at hb;subst hb;subst e;exact hm ha⟩;simp only[g2,aM];exact⟨5,rfl,fun h=>by cases h⟩)
    (fun m' _ dL iV=>by
     simp only[ZF,dL,zD,sa,hw];rw[zW (zF _)]at iV;refine ih () fun y hy=>?_;rw[jG hx]at hy;rcases yD.1 hy with hy |hy
     exact hI y hy;simp at hy;subst hy;exact iV) n 0 () qq0 qq0 ⟨by simp,by simp⟩
   rw[zV]at this;exact this)
  (fun m _ bH hI=>by simp only[LH,bH,zD,sb];rw[zW (zF _)]at hI;exact⟨0,rfl,fun _=>hI⟩) n 0 () qq0 qq0 qq4
 rw[zV]at this;exact this
def z65{x:bG}(hs:x.Supers.length<=256)(hl:l.length<=1000)(hn:5000<=n):vm n x l=some (decide (∀s∈x.Supers,s∈l)):=by
 have:=iL (l:=x.Supers) qq0 (F:=fun m z (_:Unit)=>Z8 x l n m z) (fun i _=>∀s∈x.Supers.take i,s∈l) (Q:=fun b=>b=decide (∀s∈x.Supers,s∈l))
  (fun m i s _ hx aE bH hw hI ih=>by
   simp only[Z8,bH,zC,cP,hx,aM,hw,NM (l:=l) qq0 s (n:=n) qq0];by_cases hm:s∈l;simp only[hm,yC,Bool.not_true,zD];refine ih () fun t ht=>?_;rw[jG hx]at ht;rcases yD.1 ht with ht |ht
   exact hI t ht;simp at ht;subst ht;exact hm;simp only[hm,yB,Bool.not_false,zC];exact⟨false,rfl,(decide_eq_false fun h=>hm (h s (zX hx))).symm⟩)
  (fun m _ bH hI=>by simp only[Z8,bH,zD,mq];rw[zW (zF _)]at hI;exact⟨true,rfl,(decide_eq_true hI).symm⟩) n 0 () qq0 qq0 qq4
 rw[zV]at this;obtain⟨r,h1,h2⟩:=this;rw[<-h2];exact h1
inductive Ord(d:List bG):List Str->Prop
 |nil:Ord d []
 |snoc {l:List Str} {x:bG}:Ord d l->x∈d->x.Name ∉ l->(∀s∈x.Supers,s∈l)->Ord d (l++[x.Name])
def Ord.nodup(h:Ord d l):l.Nodup/\∀s∈l,kW d s:=by induction h with|nil=>simp| @snoc l x h1 h2 h3 h4 ih=>refine⟨?_,fun s hs=>?_⟩;rw[List.nodup_append];exact⟨ih.1,by simp,fun a ha b hb e=>by simp at hb;subst hb;subst e;exact h3 ha⟩;rcases yD.1 hs with hs |hs;exact ih.2 s hs;simp at hs;subst hs;exact⟨x,h2,rfl⟩
def Pn:∀{a b:X Str},a.Nodup->(∀x∈a,x∈b)->a.length<=b.length
 |[],b,_,_=>by simp
 |x::a,b,hn,hs=>by
  obtain⟨h1,h2⟩:=List.nodup_cons.1 hn;have h3:=Pn (b:=b.erase x) h2 fun y hy=>by have:y≠x:=fun e=>h1 (e ▸ hy);exact(List.mem_erase_of_ne this).2 (hs y (List.mem_cons_of_mem x hy))
  have h4:=List.length_erase_of_mem (hs x qq4);have h5:=List.length_pos_of_mem (hs x qq4);simp only[zO];omega
def Ord.len(h:Ord d l):l.length<=d.length:=by
 have:=Pn (b:=d.map bG.Name) h.nodup.1 fun s hs=>by obtain⟨x,hx,rfl⟩:=h.nodup.2 s hs;exact List.mem_map_of_mem hx
 rwa [yA]at this
def z1i(hd:d.length<=12)(hs:∀x∈d,x.Supers.length<=256)(hn:5000<=n):∃l,yh n d=some l/\Ord d l:=by
 have key:∀(m:Nat)(b:PE)(l:X Str),d.length-l.length+2<=m+(cond b 0 1)->Ord d l->∃r,HE d n m b l=some r/\Ord d r:=by
  intro m;induction m with
  |zero=>intro b l hm;cases b<;>simp at hm<;>omega|succ m ih=>
   intro b l hm hl;have rL:=hl.len;unfold HE;rcases b with _|_;simp only[zD,sd];exact⟨l,rfl,hl⟩;simp only[zC]at hm ⊢;have:=iL (l:=d) qq0 (F:=fun m' z (s:PE×Str)=>LI d n l (HE d n m) m' s.1 s.2 z) (fun i s=>s.1=true->∃x∈d,x.Name=s.2/\x.Name ∉ l/\∀t∈x.Supers,t∈l) (Q:=fun r=>Ord d r)
    (fun m' i x s hx aE bH hw hI kO=>by
     have g8:=zX hx;simp only[LI,bH,zC,cP,hx,aM,hw,NM (l:=l) qq0 x.Name (n:=n) qq0,z65 (hs x g8) (show l.length<=1000 by omega) hn];by_cases h1:x.Name∈l;simp only[h1,yC,zC,aM];exact kO (s.1,s.2) hI;by_cases h2:∀t∈x.Supers,t∈l;have e1:decide (∀t∈x.Supers,t∈l)=true:=decide_eq_true h2;simp only[h1,e1,yB,zD,Bool.not_true,aM,Sj,hw];have gH:∃y∈d,y.Name=x.Name/\y.Name ∉ l/\∀t∈y.Supers,t∈l:=⟨x,g8,rfl,h1,h2⟩;cases hb:s.1 with
     |false=>simp only[Bool.not_false,zC,aM];exact kO (true,x.Name) fun _=>gH
     |true=>
      simp only[Bool.not_true,zD,aM];cases kD x.Name s.2 with
      |true=>simp only[zC];exact kO (true,x.Name) fun _=>gH
      |false=>simp only[zD];exact kO (true,s.2) fun _=>hI hb
     have e1:decide (∀t∈x.Supers,t∈l)=false:=decide_eq_false h2;simp only[h1,e1,yB,zD,Bool.not_false,aM,zC];exact kO (s.1,s.2) hI)
    (fun m' s bH hI=>by
     simp only[LI,bH,zD,sc,Sk];rcases hb:s.1 with _|_;simp only[zD];exact ih false l (by simp;omega) hl;obtain⟨x,hx,e,h1,h2⟩:=hI hb;have OS:Ord d (l++[s.2]):=by rw[<-e];exact .snoc hl hx h1 h2
     have:=OS.len;simp only[zU,zO,zS]at this;simp only[zC];rw[fW qq0];exact ih true (l++[s.2]) (by simp;omega) OS) n 0 (false,[]) qq0 qq0 (fun h=>by cases h)
   rw[zV]at this;exact this
 exact key n true [] (by simp;omega) .nil
structure xX(d:X bG):Prop where
 len:d.length<=12
 siz:∀x∈d,x.Supers.length<=256/\x.Feats.length<=256
 nam:Ol d
 sup:∀x∈d,JO d x
 ord:∃l,Ord d l/\l.length=d.length
 one:(d.filter fun x=>decide (x.Supers=[])).length=1
def qz2(hd:d.length<=12)(hn:5000<=n):∃e,Qp n d=some e/\(e=0->xX d):=by
 obtain⟨e1,a1,a2⟩:=z6d hd hn;simp only[Qp,a1,aM];by_cases h1:e1=0;subst h1;have a3:=a2 rfl;obtain⟨e2,b1,b2⟩:=qz7 hd hn;simp only[bne_self_eq_false,zD,b1,aM];by_cases h2:e2=0;subst h2;obtain⟨e3,c1,c2⟩:=z34 hd (fun x hx=>(a3 x hx).1) hn;simp only[bne_self_eq_false,zD,c1,aM];by_cases h3:e3=0;subst h3;simp only[bne_self_eq_false,zD];have:=iL (l:=d) qq0 (F:=fun m z (s:Int)=>OA d n m s z) (fun i s=>s=(((d.take i).filter fun x=>decide (x.Supers=[])).length:Int)) (Q:=fun e=>e=0->xX d)
  (fun m i x s hx aE bH hw hI ih=>by
   have CT:=List.length_filter_le (fun x:bG=>decide (x.Supers=[])) (d.take i);rw[List.length_take]at CT;simp only[OA,bH,zC,cP,hx,aM,Ry,hw];by_cases hz:x.Supers=[];have e0:((x.Supers.length:Int)==0)=true:=by simp[hz]
   have e1:IntKind.i64.wrap (s+1)=s+1:=wr qq0 qq0;simp only[e0,zC,e1];refine ih (s+1) ?_;rw[jG hx,List.filter_append,zU,hI];simp[hz];have e0:((x.Supers.length:Int)==0)=false:=by simp[List.length_eq_zero_iff,hz]
   simp only[e0,zD];refine ih s ?_;rw[jG hx,List.filter_append,zU,hI];simp[hz])
  (fun m s bH hI=>by
   rw[zW (zF _)]at hI;simp only[OA,bH,zD,ub];by_cases h4:s=1;obtain⟨l,g1,g2⟩:=z1i hd (fun x hx=>(a3 x hx).1) hn;have hl:=g2.len;simp only[h4,bne_self_eq_false,zD,g1,aM];by_cases h5:(l.length:Int)<(d.length:Int);simp only[h5,yC,zC];exact⟨6,rfl,fun h=>by cases h⟩;simp only[h5,yB,zD];exact⟨0,rfl,fun _=>⟨hd,a3,b2 rfl,c2 rfl,⟨l,g2,by omega⟩,by omega⟩⟩;have e4:(s != 1)=true:=by simpa using h4
   simp only[e4,zC];exact⟨1,rfl,fun h=>by cases h⟩) n 0 0 qq0 qq0 qq4
 rw[zV]at this;exact this;have e4:(e3 != 0)=true:=by simpa using h3
 simp only[e4,zC];exact⟨e3,rfl,fun h=>absurd h h3⟩;have e4:(e2 != 0)=true:=by simpa using h2
 simp only[e4,zC];exact⟨e2,rfl,fun h=>absurd h h2⟩;have e4:(e1 != 0)=true:=by simpa using h1
 simp only[e4,zC];exact⟨e1,rfl,fun h=>absurd h h1⟩
variable{a:Nat}
def wu(h:a<18446744073709551616):IntKind.u64.wrap (a:Int)=(a:Int):=by simp only[IntKind.wrap,IntKind.bits,IntKind.signed];simp;omega
variable{b:Nat}
def Q2(ha:a<18446744073709551616)(hb:b<18446744073709551616):K5 .u64 (a:Int) (b:Int)=((a&&&b:Nat):Int):=by
 have h:(BitVec.ofInt 64 (a:Int)&&&BitVec.ofInt 64 (b:Int)).toNat=a&&&b:=by simp only[BitVec.ofInt_natCast,BitVec.toNat_and,BitVec.toNat_ofNat];rw[Nat.mod_eq_of_lt ha,Nat.mod_eq_of_lt hb]
 show IntKind.u64.wrap (((BitVec.ofInt 64 (a:Int)&&&BitVec.ofInt 64 (b:Int)).toNat:Nat):Int)=_;rw[h];exact wu (Nat.lt_of_le_of_lt Nat.and_le_left ha)
def orN(ha:a<18446744073709551616)(hb:b<18446744073709551616):Te .u64 (a:Int) (b:Int)=((a|||b:Nat):Int):=by
 have h:(BitVec.ofInt 64 (a:Int)|||BitVec.ofInt 64 (b:Int)).toNat=a|||b:=by simp only[BitVec.ofInt_natCast,BitVec.toNat_or,BitVec.toNat_ofNat];rw[Nat.mod_eq_of_lt ha,Nat.mod_eq_of_lt hb]
 show IntKind.u64.wrap (((BitVec.ofInt 64 (a:Int)|||BitVec.ofInt 64 (b:Int)).toNat:Nat):Int)=_;rw[h];exact wu (Nat.or_lt_two_pow (n:=64) ha hb)
def Tq(ha:a<18446744073709551616)(hb:b<18446744073709551616):∃c:Nat,v06 .u64 (a:Int) (b:Int)=(c:Int)/\(c=0↔a&&&b=a):=by
 refine⟨(BitVec.ofInt 64 (a:Int) &&& ~~~ BitVec.ofInt 64 (b:Int)).toNat,?_,?_⟩;exact wu (BitVec.isLt _);have h1:(BitVec.ofInt 64 (a:Int)&&&BitVec.ofInt 64 (b:Int)).toNat=a&&&b:=by simp only[BitVec.ofInt_natCast,BitVec.toNat_and,BitVec.toNat_ofNat];rw[Nat.mod_eq_of_lt ha,Nat.mod_eq_of_lt hb]
 have h2:(BitVec.ofInt 64 (a:Int)).toNat=a:=by simp only[BitVec.ofInt_natCast,BitVec.toNat_ofNat];exact Nat.mod_eq_of_lt ha
 generalize BitVec.ofInt 64 (a:Int)=x at*;generalize BitVec.ofInt 64 (b:Int)=y at*;rw[<-h1];constructor;intro h;have h3:x &&& ~~~ y=0#64:=BitVec.eq_of_toNat_eq (by simpa using h);have:x&&&y=x:=by ext i hi;have:=congrArg (fun z=>z.getLsbD i) h3;simp[hi]at this ⊢;intro hx;exact this hx
 rw[this,h2];intro h;have h3:x&&&y=x:=BitVec.eq_of_toNat_eq (by rw[h,h2]);have:x &&& ~~~ y=0#64:=by ext i hi;have:=congrArg (fun z=>z.getLsbD i) h3;simp[hi]at this ⊢;intro hx;exact this hx
 rw[this];rfl
def bt(w:Nat):X Int:=if w=0 then[]else[(w:Int)]
def QA:bt 0=[]:=rfl
variable{w:Nat}
def qW(h:w≠0):bt w=[(w:Int)]:=if_neg h
def z8y:((bt w).length:Int)=0↔w=0:=by by_cases h:w=0;simp[h,bt];simp[h,bt]
def ad{w:Nat}{k:Nat}(hk:k<=1000):∀(j m:Nat),j<=k->j+2<=m->SK ((w:Int)::List.replicate k 0) m ((j+1:Nat):Int)=some (bt w)
 |0,0,_,h=>by omega
 |0,1,_,h=>by omega
 |0,m+2,_,_=>by
  have e0:IntKind.i64.wrap (((0+1:Nat):Int)-1)=0:=wr (z:=0) qq0 qq0;have e1:aB ((w:Int)::List.replicate k 0) 0=some (w:Int):=by simp[aB]
  have e2:decide (((0+1:Nat):Int)>0)=true:=by simp
  have c0:=zg (l:=(w:Int)::List.replicate k 0) (b:=0) qq4;have c1:=zg (l:=(w:Int)::List.replicate k 0) (b:=1) qq4;rw[zV,List.take_zero]at c0;rw[SK,e2,e0,zC,e1,aM,aM];by_cases hw:w=0;have:((w:Int)==0)=true:=by simp[hw]
  rw[this,zC,SK];simp only[Int.lt_irrefl,yB,zD,aM,Sl,c0,show((0:Int)>0)=False by simp];rw[fW qq4,hw,QA];have:((w:Int)==0)=false:=by simp[hw]
  rw[this,zD,Sl,show((0+1:Nat):Int)=((1:Nat):Int) by simp,c1,aM,fW qq4,qW hw];rfl
 |j+1,m,hj,hm=>by
  obtain⟨m,rfl⟩:∃q,m=q+1:=⟨m-1,by omega⟩;have e0:IntKind.i64.wrap (((j+1+1:Nat):Int)-1)=((j+1:Nat):Int):=W4 qq0 qq0;have e1:aB ((w:Int)::List.replicate k 0) ((j+1:Nat):Int)=some 0:=by rw[cP,zH,List.getElem?_replicate,if_pos qq0]
  have e2:decide (((j+1+1:Nat):Int)>0)=true:=by simp;omega
  rw[SK,e2,e0,zC,e1,aM,aM];exact ad hk j m qq0 qq0
variable{n:Nat}
def wi(hn:5<=n):L8 n [(w:Int)]=some (bt w):=ad (k:=0) qq0 0 n qq0 qq0
def wj(hn:5<=n):L8 n []=some []:=by obtain⟨k,rfl⟩:=Nat.exists_eq_add_of_le' hn;rfl
def z9u(hn:5<=n):L8 n (bt w)=some (bt w):=by by_cases h:w=0;subst h;exact wj hn;rw[qW h,wi hn,qW h]
def ik(b n:Nat):S7 n (bt b) 0=some (b:Int):=by by_cases h:b=0;subst h;rfl;rw[qW h];rfl
def z6w(ha:a<4096)(hb:b<4096)(hn:5<=n):H8 n (bt a) (bt b)=some (bt (a&&&b)):=by obtain⟨k,rfl⟩:=Nat.exists_eq_add_of_le' hn;by_cases h:a=0;subst h;rw[Nat.zero_and];have:=wj (n:=k+5) hn;simp only[H8,QA,Iq,zS,NW,this,aM];rfl;have h1:=Q2 (a:=a) (b:=b) qq0 qq0;have h2:=wi (w:=a&&&b) (n:=k+5) hn;have e:H8 (k+5) [(a:Int)] (bt b)=a8 (S7 (k+5) (bt b) 0) fun kA=>aF ((0+1)*8<=140737488355328/\0+1<=140737488355328) (NW (k+5) [K5 .u64 (a:Int) kA]):=rfl;rw[qW h,e,ik,aM,fW qq0,NW,h1,h2];rfl
def z5g(ha:a<4096)(hb:b<4096)(hn:5<=n):∃c:Nat,Ih n (bt a) (bt b)=some (bt c)/\(c=0↔a&&&b=a):=by obtain⟨k,rfl⟩:=Nat.exists_eq_add_of_le' hn;by_cases h:a=0;subst h;have:=wj (n:=k+5) hn;refine⟨0,?_,by simp⟩;simp only[Ih,QA,Sb,zS,Jh,this,aM];rfl;obtain⟨c,h1,h3⟩:=Tq (a:=a) (b:=b) qq0 qq0;have h2:=wi (w:=c) (n:=k+5) hn;have e:Ih (k+5) [(a:Int)] (bt b)=a8 (S7 (k+5) (bt b) 0) fun kA=>aF ((0+1)*8<=140737488355328/\0+1<=140737488355328) (Jh (k+5) [v06 .u64 (a:Int) kA]):=rfl;refine⟨c,?_,h3⟩;rw[qW h,e,ik,aM,fW qq0,Jh,h1,h2];rfl
def J_(ha:a<4096)(hb:b<4096)(hn:5<=n):YV n (bt a) (bt b)=some (decide (a&&&b=a)):=by obtain⟨c,h1,h2⟩:=z5g ha hb hn;rw[YV,h1,aM];congr 1;rw[Bool.eq_iff_iff,beq_iff_eq,z8y,h2,decide_eq_true_eq]
def z4u(ha:a<4096)(hb:b<4096)(hn:5<=n):Qs n (bt a) (bt b)=some (decide (a=b)):=by
 simp only[Qs,J_ ha hb hn,J_ hb ha hn,aM];by_cases h:a&&&b=a;by_cases h':b&&&a=b;have:a=b:=by rw[<-h,Nat.and_comm,h']
 simp[h,h',this,aM];have:a≠b:=fun e=>h' (by rw[<-e,Nat.and_self]);simp[h,h',this,aM];have:a≠b:=fun e=>h (by rw[<-e,Nat.and_self]);simp[h,this,aM]
def z7m{i:Nat}(hw:w<4096)(hi:i<64):Hw n (bt w) (i:Int)=some (w.testBit i):=by
 have e0:decide ((i:Int)<0)=false:=by simp
 have e1:(i:Int).tdiv 64=0:=by rw[Int.tdiv_eq_ediv_of_nonneg qq0];omega
 have e2:IntKind.i64.wrap 0=0:=wr qq0 qq0;simp only[Hw,e0,zD,aM,e1,e2];by_cases h:w=0;subst h;simp[QA];have e3:decide ((0:Int)>=((bt w).length:Int))=false:=by rw[qW h];simp
 have e4:aB (bt w) 0=some (w:Int):=by rw[qW h];rfl
 have e5:(i:Int).tmod 64=(i:Int):=by rw[Int.tmod_eq_emod_of_nonneg qq0];omega
 have e6:IntKind.u64.wrap (i:Int)=(i:Int):=wu qq0;have e7:min ((i:Int).toNat) IntKind.u64.bits=i:=by rw[zZ];exact Nat.min_eq_left (by show i<=64;omega)
 have e8:(w:Int).fdiv (2^i)=((w/2^i:Nat):Int):=by rw[show(2:Int)^i=((2^i:Nat):Int) by simp,Int.fdiv_eq_ediv_of_nonneg _ (Int.natCast_nonneg _)];rfl
 have aE:w/2^i<18446744073709551616:=Nat.lt_of_le_of_lt (Nat.div_le_self _ _) qq0;have e9:=Q2 (a:=w/2^i) (b:=1) aE qq0;rw[show((1:Nat):Int)=1 from rfl]at e9;simp only[e3,zD,e4,aM,e5,e6];rw[fW qq0,e7,e8,e9];congr 1;rw[Bool.eq_iff_iff,beq_iff_eq,Nat.testBit_eq_decide_div_mod_eq,decide_eq_true_eq,Nat.and_one_is_mod];omega
def bl(w:Nat):X Int:=((List.range 64).filter fun i=>w.testBit i).map fun(i:Nat)=>(i:Int)
def z9k(hw:w<4096)(hn:100<=n):kw n (bt w)=some (bl w):=by
 by_cases h:w=0;subst h;obtain⟨k,rfl⟩:=Nat.exists_eq_add_of_le' hn;have e:bl 0=[]:=by simp[bl]
 rw[e];rfl;have vQ:IntKind.i64.wrap (64*((bt w).length:Int))=((List.range 64).length:Int):=by rw[qW h,List.length_range];exact wr qq4 qq4
 have:=iL (l:=List.range 64) qq4 (F:=fun m z s=>O5 (bt w) n m z s) (fun i s=>s=(((List.range 64).take i).filter fun i=>w.testBit i).map fun(i:Nat)=>(i:Int)) (Q:=fun r=>r=bl w)
  (fun m i x s hx aE bH nV hI ih=>by
   have hxi:x=i:=by rw[List.getElem?_range (by simpa using aE)]at hx;exact(Option.some.inj hx).symm
   subst hxi;have aQ:s.length<=64:=by rw[hI,yA];refine Nat.le_trans (List.length_filter_le _ _) ?_;rw[List.length_take,List.length_range];omega
   rw[List.length_range]at aE;simp only[O5,vQ,bH,zC,z7m hw aE,aM,Rj,nV];cases hb:w.testBit x with
   |true=>simp only[zC];rw[fW qq0];refine ih _ ?_;rw[jG hx,List.filter_append,List.map_append,hI];simp[hb]|false=>simp only[zD];refine ih _ ?_;rw[jG hx,List.filter_append,List.map_append,hI];simp[hb])
  (fun m s bH hI=>by simp only[O5,vQ,bH,zD,li];rw[zW (zF _)]at hI;exact⟨s,rfl,hI⟩) n 0 [] (by simp;omega) qq0 qq4
 obtain⟨r,h1,h2⟩:=this;rw[<-h2];rw[zV]at h1;exact h1
def qum(hw:w<4096)(hn:100<=n):Ii n (bt w)=some ((bl w).length:Int):=by rw[Ii,z9k hw hn];rfl
def e_(hn:5<=n):NR n (bt a) (bt b)=some (decide (a=b)):=by
 obtain⟨k,rfl⟩:=Nat.exists_eq_add_of_le' hn;by_cases ha:a=0;subst ha;by_cases hb:b=0;subst hb;rfl;rw[qW hb];simp[QA,NR,Ne.symm hb];by_cases hb:b=0;subst hb;rw[qW ha];simp[QA,NR,ha];have e:NR (k+5) [(a:Int)] [(b:Int)]=cond ((a:Int) != (b:Int)) (some false) (some true):=rfl;rw[qW ha,qW hb,e];by_cases h:a=b;subst h;simp;have:((a:Int) != (b:Int))=true:=by simp;omega
 simp[this,h]
def Um{ws:X Nat}(hl:ws.length<=1000)(hn:5000<=n):jh n (ws.map bt) (bt b)=some (decide (b∈ws)):=by
 have:=iL (l:=ws) qq0 (F:=fun m z (_:Unit)=>YS (ws.map bt) (bt b) n m z) (fun i _=>b ∉ ws.take i) (Q:=fun r=>r=decide (b∈ws))
  (fun m i x _ hx aE bH hw hI ih=>by
   have wQ:(ws.map bt)[i]? = some (bt x):=by rw[List.getElem?_map,hx];rfl
   simp only[YS,yA,bH,zC,cP,wQ,aM,e_ (a:=x) (b:=b) (n:=n) qq0,hw];by_cases e:x=b;simp only[e,yC,zC];exact⟨true,rfl,(decide_eq_true (e ▸ zX hx)).symm⟩;simp only[e,yB,zD];refine ih () ?_;rw[jG hx];simp[hI,Ne.symm e])
  (fun m _ bH hI=>by simp only[YS,yA,bH,zD,vk];rw[zW (zF _)]at hI;exact⟨false,rfl,(decide_eq_false hI).symm⟩) n 0 () qq0 qq0 qq4
 obtain⟨r,h1,h2⟩:=this;rw[<-h2];rw[zV]at h1;exact h1
def HJ(l:X Nat):Nat:=l.foldl (fun w i=>w|||2^i) 0
def tn:∀(l:X Nat)(w:Nat),(∀i∈l,i<12)->w<4096->l.foldl (fun w i=>w|||2^i) w<4096
 |[],w,_,h=>h|i::l,w,hl,h=>tn l _ (fun j hj=>hl j (by simp[hj])) (Nat.or_lt_two_pow (n:=12) h (Nat.pow_lt_pow_right qq0 (hl i qq4)))
def z7v(j:Nat):∀(l:X Nat)(w:Nat),(l.foldl (fun w i=>w|||2^i) w).testBit j=(w.testBit j||decide (j∈l))
 |[],w=>by simp
 |i::l,w=>by rw[List.foldl_cons,z7v j l,Nat.testBit_or,Nat.testBit_two_pow];by_cases e:i=j;subst e;simp;have:¬ j=i:=fun h=>e h.symm;simp[e,this,Bool.or_assoc]
def Tj{l:X Nat}(hl:l.length<=12)(g9:∀i∈l,i<12)(hn:5000<=n):Pb n (l.map fun(i:Nat)=>(i:Int))=some (bt (HJ l),0):=by
 have hrep:List.replicate (64:Int).toNat (0:Int)=((0:Nat):Int)::List.replicate 63 0:=rfl;have:=iL (l:=l) qq0 (F:=fun m z s=>YT (l.map fun(i:Nat)=>(i:Int)) n m z s) (fun i s=>s=(((l.take i).foldl (fun w i=>w|||2^i) 0:Nat):Int)::List.replicate 63 0) (Q:=fun r=>r=(bt (HJ l),0))
  (fun m i x s hx aE bH hw hI ih=>by
   have hx12:=g9 x (zX hx);have wQ:(l.map fun(i:Nat)=>(i:Int))[i]? = some (x:Int):=by rw[List.getElem?_map,hx];rfl
   have e1:decide ((x:Int)<0)=false:=by simp
   have e2:decide ((x:Int)>4095)=false:=by simp;omega
   have e3:IntKind.i64.wrap ((x:Int).tdiv 64)=0:=by rw[Int.tdiv_eq_ediv_of_nonneg qq0,show(x:Int)/64=0 by omega];exact wr qq0 qq0
   have e4:(x:Int).tmod 64=(x:Int):=by rw[Int.tmod_eq_emod_of_nonneg qq0];omega
   have e5:IntKind.u64.wrap (x:Int)=(x:Int):=wu qq0;have e6:min ((x:Int).toNat) IntKind.u64.bits=x:=by rw[zZ];exact Nat.min_eq_left (by show x<=64;omega)
   have tA:(l.take i).foldl (fun w i=>w|||2^i) 0<4096:=tn _ 0 (fun j hj=>g9 j (List.mem_of_mem_take hj)) qq0;have hp:2^x<4096:=Nat.pow_lt_pow_right (n:=12) qq0 hx12;have e7:IntKind.u64.wrap (1*(2^x:Int))=((2^x:Nat):Int):=by rw[Int.one_mul,show(2:Int)^x=((2^x:Nat):Int) by simp];exact wu qq0
   have e8:i9 s 0 ((64:Int).toNat) 0=some (((l.take i).foldl (fun w i=>w|||2^i) 0:Nat):Int):=by rw[hI];rfl
   have e9:=orN (a:=(l.take i).foldl (fun w i=>w|||2^i) 0) (b:=2^x) qq0 qq0;simp only[YT,yA,bH,zC,cP,wQ,aM,e1,e2,zD,e3,e4,e5,e6,e7,e8,e9,hw];rw[fW qq0];refine ih _ ?_;rw[jG hx,List.foldl_append,hI];rfl)
  (fun m s bH hI=>by
   simp only[YT,yA,bH,zD,vp];rw[zW (zF _)]at hI;have h1:L8 n s=some (bt (HJ l)):=by rw[hI];exact ad (k:=63) qq0 63 n qq0 qq0
   rw[fW (by rw[hI];rfl),h1];exact⟨_,rfl,rfl⟩) n 0 _ qq0 qq0 rfl
 obtain⟨r,h1,h2⟩:=this;rw[zV]at h1;rw[Pb,fW qq3,hrep,<-h2];exact h1
inductive o7(d:List bG)(s:Str):Str->Prop
 |refl:o7 d s s
 |step {t u:Str} {x:bG}:o7 d s t->x∈d->x.Name=t->u∈x.Supers->o7 d s u
variable{d:X bG}
variable{s:Str}
def o7.trans{t u:Str}(h:o7 d s t)(h':o7 d t u):o7 d s u:=by induction h' with|refl=>exact h|step _ h2 h3 h4 ih=>exact .step ih h2 h3 h4
structure WL(d:X bG)(P:Str->Prop)(l:X Str):Prop where
 nod:l.Nodup
 mem:∀s∈l,kW d s/\P s
variable{l:X Str}
def WL.len{P:Str->Prop}(h:WL d P l):l.length<=d.length:=by
 have:=Pn (b:=d.map bG.Name) h.nod fun s hs=>by obtain⟨x,hx,rfl⟩:=(h.mem s hs).1;exact List.mem_map_of_mem hx
 rwa [yA]at this
def WL.snoc{d:X bG}{P:Str->Prop}{l:X Str}(h:WL d P l){s:Str}(hn:s ∉ l)(hs:kW d s/\P s):WL d P (l++[s]):=by refine⟨?_,fun t ht=>?_⟩;rw[List.nodup_append];exact⟨h.nod,by simp,fun a ha b hb e=>by simp at hb;subst hb;subst e;exact hn ha⟩;rcases yD.1 ht with ht |ht;exact h.mem t ht;simp at ht;subst ht;exact hs
variable{n:Nat}
def z1u(hl:l.length<=1000)(hn:5000<=n):(∃out,SG n l n [] 0=some out/\w9 [] l out)/\∃out,SH n l n [] 0=some out/\w9 [] l out:=by
 constructor;have:=iL (l:=l) qq0 (F:=fun m z s=>SG n l m s z) (fun i s=>w9 [] (l.take i) s) (Q:=fun out=>w9 [] l out)
  (fun m i x s hx aE bH hw hI ih=>by have hl:=hI.len;simp at hl;obtain⟨o,h1,h2,h3,h4⟩:=Gz (l:=s) qq0 hI.asc x (show s.length<n by omega);simp only[SG,bH,zC,cP,hx,aM,h1,hw];exact ih o (by rw[jG hx];exact hI.next h2 h3 h4))
  (fun m s bH hI=>by simp only[SG,bH,zD,ud];rw[zW (zF _)]at hI;exact⟨s,rfl,hI⟩) n 0 [] qq0 qq0 (w9.nil List.Pairwise.nil)
 rw[zV]at this;exact this;have:=iL (l:=l) qq0 (F:=fun m z s=>SH n l m s z) (fun i s=>w9 [] (l.take i) s) (Q:=fun out=>w9 [] l out)
  (fun m i x s hx aE bH hw hI ih=>by have hl:=hI.len;simp at hl;obtain⟨o,h1,h2,h3,h4⟩:=Gz (l:=s) qq0 hI.asc x (show s.length<n by omega);simp only[SH,bH,zC,cP,hx,aM,h1,hw];exact ih o (by rw[jG hx];exact hI.next h2 h3 h4))
  (fun m s bH hI=>by simp only[SH,bH,zD,ui];rw[zW (zF _)]at hI;exact⟨s,rfl,hI⟩) n 0 [] qq0 qq0 (w9.nil List.Pairwise.nil)
 rw[zV]at this;exact this
def z48(h:xX d)(hs:kW d s)(hn:5000<=n):∃l,Qq n d s=some l/\eX l/\l.length<=12/\∀x,x∈l↔kW d x/\o7 d x s:=by
 have hd:=h.len;have key:∀(m i:Nat)(l:X Str),d.length+1-i<=m->i<=l.length->WL d (fun x=>o7 d x s) l->s∈l->(∀y∈l.take i,∀x∈d,y∈x.Supers->x.Name∈l)->
   ∃r,LC d n m i l=some r/\eX r/\r.length<=12/\∀x,x∈r↔kW d x/\o7 d x s:=by
  intro m;induction m with
  |zero=>intro i l hm hi hw;have:=hw.len;omega|succ m ih=>
   intro i l hm hi hw I5 iS;have rL:=hw.len;unfold LC;by_cases aE:i<l.length;obtain⟨y,hy,E6⟩:=fP aE;simp only[jB aE,zC];have:=iL (l:=d) qq0 (F:=fun m' z (l':X Str)=>OB d n i (LC d n m) m' z l') (fun k l'=>WL d (fun x=>o7 d x s) l'/\(∃t,l'=l++t)/\∀x∈d.take k,y∈x.Supers->x.Name∈l') (Q:=fun r=>eX r/\r.length<=12/\∀x,x∈r↔kW d x/\o7 d x s)
    (fun m' k x l' hx rK bH nV hI kO=>by
     obtain⟨FV,⟨t,iV⟩,FU⟩:=hI;have g8:=zX hx;have hl'':=FV.len;have qJ:l'[i]? = some y:=by rw[iV,List.getElem?_append_left aE];exact hy
     have Ki:=(h.siz x g8).1;simp only[OB,bH,zC,cP,hx,aM,qJ,NM (l:=x.Supers) qq0 y (n:=n) qq0,NM (l:=l') qq0 x.Name (n:=n) qq0,Rz,nV];by_cases h1:y∈x.Supers;by_cases h2:x.Name∈l';simp only[h1,h2,yC,zC,aM,Bool.not_true,zD];refine kO l' ⟨FV,⟨t,iV⟩,fun z hz Kc=>?_⟩;rw[jG hx]at hz;rcases yD.1 hz with hz |hz;exact FU z hz Kc;simp at hz;subst hz;exact h2;simp only[h1,h2,yC,yB,zC,aM,Bool.not_false];rw[fW qq0];have pz:=(hw.mem y E6).2;refine kO (l'++[x.Name]) ⟨FV.snoc h2 ⟨⟨x,g8,rfl⟩,(o7.step .refl g8 rfl h1).trans pz⟩,⟨t++[x.Name],by rw[iV,zT]⟩,fun z hz Kc=>?_⟩;rw[jG hx]at hz;rcases yD.1 hz with hz |hz;exact List.mem_append_left _ (FU z hz Kc);simp at hz;subst hz;simp;simp only[h1,yB,zD,aM];refine kO l' ⟨FV,⟨t,iV⟩,fun z hz Kc=>?_⟩;rw[jG hx]at hz;rcases yD.1 hz with hz |hz;exact FU z hz Kc;simp at hz;subst hz;exact absurd Kc h1)
    (fun m' l' bH hI=>by
     obtain⟨FV,⟨t,iV⟩,FU⟩:=hI;rw[zW (zF _)]at FU;simp only[OB,bH,zD,uc,kX aE (show l.length<=9223372036854775807 by omega)];refine ih (i+1) l' qq0 (by rw[iV];simp;omega) FV (by rw[iV];exact List.mem_append_left _ I5) fun z hz x hx hzx=>?_;rw[iV,List.take_append_of_le_length qq0,jG hy]at hz;rcases yD.1 hz with hz |hz
     rw[iV];exact List.mem_append_left _ (iS z hz x hx hzx);simp at hz;subst hz;exact FU x hx hzx) n 0 l qq0 qq0 ⟨hw,⟨[],by simp⟩,by simp⟩
   rw[zV]at this;exact this;have i5:i=l.length:=by omega
   subst i5;rw[zW (zF _)]at iS;simp only[jV aE,zD,ue];obtain⟨out,g1,g2⟩:=(z1u (l:=l) qq0 hn).1;have aQ:=g2.len;simp at aQ;refine⟨out,g1,g2.asc,by omega,fun x=>?_⟩;rw[g2.mem];simp only[List.not_mem_nil,false_or];constructor;exact fun hx=>hw.mem x hx;rintro⟨_,hu⟩;have:∀{t:Str},o7 d x t->t∈l->x∈l:=by
    intro t ht;induction ht with
    |refl=>exact id|step _ h2 h3 h4 ih=>exact fun hu=>ih (h3 ▸ iS _ hu _ h2 h4)
   exact this hu I5
 obtain⟨j,x,g1,g2,g3⟩:=t_ (d:=d) qq0 hs (n:=n) qq0;have hj:¬ (j:Int)<0:=by omega
 simp only[Qq,g3,aM,hj,yB,zD];have:=key n 0 [s] qq0 qq0 ⟨by simp,fun t ht=>by simp at ht;subst ht;exact⟨hs,.refl⟩⟩ qq4 qq4;rw[zV]at this;exact this
def qqi(h:Ol d){x y:bG}(hx:x∈d)(hy:y∈d)(e:x.Name=y.Name):x=y:=by
 have:=h.nod;clear h;induction d with
 |nil=>cases hx|cons z d ih=>rw[zQ,List.nodup_cons]at this;rcases zI.1 hx with h1 |h1;rcases zI.1 hy with h2 |h2;rw[h1,h2];exact absurd (List.mem_map.2 ⟨y,h2,by rw[<-e,h1]⟩) this.1;rcases zI.1 hy with h2 |h2;exact absurd (List.mem_map.2 ⟨x,h1,by rw[e,h2]⟩) this.1;exact ih h1 h2 this.2
def z3u(h:xX d)(hs:kW d s)(hn:5000<=n):∃l,Qr n d s=some l/\eX l/\l.length<=12/\∀x,x∈l↔kW d x/\o7 d s x:=by
 have hd:=h.len;have key:∀(m i:Nat)(l:X Str),d.length+1-i<=m->i<=l.length->WL d (fun x=>o7 d s x) l->s∈l->(∀y∈l.take i,∀x∈d,x.Name=y->∀u∈x.Supers,u∈l)->
   ∃r,LD d n m i l=some r/\eX r/\r.length<=12/\∀x,x∈r↔kW d x/\o7 d s x:=by
  intro m;induction m with
  |zero=>intro i l hm hi hw;have:=hw.len;omega|succ m ih=>
   intro i l hm hi hw I5 iS;have rL:=hw.len;unfold LD;by_cases aE:i<l.length;obtain⟨y,hy,E6⟩:=fP aE;obtain⟨j,x,g1,g2,g3⟩:=t_ (d:=d) qq0 (hw.mem y E6).1 (n:=n) qq0;have g8:=zX g1;have Ki:=(h.siz x g8).1;simp only[jB aE,zC,cP,hy,aM,g3,g1];have:=iL (l:=x.Supers) qq0 (F:=fun m' z (l':X Str)=>OC n i (LD d n m) x m' z l') (fun k l'=>WL d (fun x=>o7 d s x) l'/\(∃t,l'=l++t)/\∀u∈x.Supers.take k,u∈l') (Q:=fun r=>eX r/\r.length<=12/\∀x,x∈r↔kW d x/\o7 d s x)
    (fun m' k u l' hu rK bH nV hI kO=>by obtain⟨FV,⟨t,iV⟩,FU⟩:=hI;have gk:=zX hu;have hl'':=FV.len;simp only[OC,bH,zC,cP,hu,aM,NM (l:=l') qq0 u (n:=n) qq0,Sa,nV];by_cases h2:u∈l';simp only[h2,yC,Bool.not_true,zD];refine kO l' ⟨FV,⟨t,iV⟩,fun z hz=>?_⟩;rw[jG hu]at hz;rcases yD.1 hz with hz |hz;exact FU z hz;simp at hz;subst hz;exact h2;simp only[h2,yB,Bool.not_false,zC];rw[fW qq0];refine kO (l'++[u]) ⟨FV.snoc h2 ⟨(h.sup x g8).1 u gk,.step (hw.mem y E6).2 g8 g2 gk⟩,⟨t++[u],by rw[iV,zT]⟩,fun z hz=>?_⟩;rw[jG hu]at hz;rcases yD.1 hz with hz |hz;exact List.mem_append_left _ (FU z hz);simp at hz;subst hz;simp)
    (fun m' l' bH hI=>by
     obtain⟨FV,⟨t,iV⟩,FU⟩:=hI;rw[zW (zF _)]at FU;simp only[OC,bH,zD,uh,kX aE (show l.length<=9223372036854775807 by omega)];refine ih (i+1) l' qq0 (by rw[iV];simp;omega) FV (by rw[iV];exact List.mem_append_left _ I5) fun z hz w nV px u hu=>?_;rw[iV,List.take_append_of_le_length qq0,jG hy]at hz;rcases yD.1 hz with hz |hz
     rw[iV];exact List.mem_append_left _ (iS z hz w nV px u hu);simp at hz;subst hz;have:=qqi h.nam nV g8 (px.trans g2.symm);subst this;exact FU u hu) n 0 l qq0 qq0 ⟨hw,⟨[],by simp⟩,by simp⟩
   rw[zV]at this;exact this;have i5:i=l.length:=by omega
   subst i5;rw[zW (zF _)]at iS;simp only[jV aE,zD,uj];obtain⟨out,g1,g2⟩:=(z1u (l:=l) qq0 hn).2;have aQ:=g2.len;simp at aQ;refine⟨out,g1,g2.asc,by omega,fun x=>?_⟩;rw[g2.mem];simp only[List.not_mem_nil,false_or];constructor;exact fun hx=>hw.mem x hx;rintro⟨_,hu⟩;clear g1 g2;induction hu with
   |refl=>exact I5|step h1 h2 h3 h4 ih=>exact iS _ (ih ⟨_,h2,h3⟩) _ h2 h3 _ h4
 obtain⟨j,x,g1,g2,g3⟩:=t_ (d:=d) qq0 hs (n:=n) qq0;have hj:¬ (j:Int)<0:=by omega
 simp only[Qr,g3,aM,hj,yB,zD];have:=key n 0 [s] qq0 qq0 ⟨by simp,fun t ht=>by simp at ht;subst ht;exact⟨hs,.refl⟩⟩ qq4 qq4;rw[zV]at this;exact this
def zau(h:xX d){a b:Str}(ha:kW d a)(hb:kW d b)(h1:o7 d a b)(h2:o7 d b a):a=b:=by
 obtain⟨l,hl,aQ⟩:=h.ord;have bY:∀s,kW d s->s∈l:=fun s ⟨x,hx,e⟩=>by
  apply Classical.byContradiction;intro hn;have h3:=Pn (a:=s::l) (b:=d.map bG.Name) (List.nodup_cons.2 ⟨hn,hl.nodup.1⟩) fun t ht=>by rcases zI.1 ht with rfl |ht;rw[<-e];exact List.mem_map_of_mem hx;obtain⟨y,hy,rfl⟩:=hl.nodup.2 t ht;exact List.mem_map_of_mem hy
  simp at h3;omega
 have nY:∀{l:X Str},Ord d l->∀s∈l,∀t,o7 d s t->∃l1 l2,l=l1++s::l2/\(t=s\/t∈l1):=by
  intro l hl;induction hl with
  |nil=>intro s hs;cases hs| @snoc l x g1 g2 g3 g4 ih=>
   have iS:∀s∈l,∀t,o7 d s t->t∈l:=fun s hs t ht=>by obtain⟨l1,l2,e1,e2⟩:=ih s hs t ht;rcases e2 with rfl |e2;exact hs;rw[e1];exact List.mem_append_left _ e2
   intro s hs t ht;rcases yD.1 hs with hs |hs;obtain⟨l1,l2,e1,e2⟩:=ih s hs t ht;exact⟨l1,l2++[x.Name],by rw[e1];simp,e2⟩;simp at hs;subst hs;refine⟨l,[],rfl,?_⟩;induction ht with
   |refl=>exact .inl rfl|step _ h2 h3 h4 kO=>rcases kO with e |e;have:=qqi h.nam h2 g2 (h3.trans e);subst this;exact .inr (g4 _ h4);exact .inr (iS _ e _ (.step .refl h2 h3 h4))
 obtain⟨l1,l2,e1,e2⟩:=nY hl a (bY a ha) b h1;obtain⟨l3,l4,e3,e4⟩:=nY hl b (bY b hb) a h2;rcases e2 with e2 |e2;exact e2.symm;rcases e4 with e4 |e4;exact e4
 ·-- b ahead of a,and a ahead of b
  have hn:=hl.nodup.1;obtain⟨p,q,e5⟩:=List.append_of_mem e2;rw[e5]at e1;have:l3=p:=by
   have hb1:b ∉ p:=fun hp=>by rw[e1]at hn;simp only[zT,List.cons_append]at hn;rw[List.nodup_append]at hn;exact hn.2.2 b hp b qq4 rfl
   have rfl:b ∉ l3:=fun hp=>by rw[e3,List.nodup_append]at hn;exact hn.2.2 b hp b qq4 rfl
   rw[e1]at e3;simp only[zT,List.cons_append]at e3;clear e1 hn e5 e4 hl;induction p generalizing l3 with
   |nil=>rcases l3 with _|⟨z,l3⟩;rfl;simp at e3;exact absurd (by rw[e3.1];simp) rfl
   |cons y p ihp=>rcases l3 with _|⟨z,l3⟩;simp at e3;exact absurd (by rw[<-e3.1];simp) hb1;simp at e3;rw[<-e3.1,ihp l3 (fun hh=>hb1 (List.mem_cons_of_mem _ hh)) (fun hh=>rfl (List.mem_cons_of_mem _ hh)) e3.2]
  rw[this]at e4;rw[e1]at hn;exact absurd rfl ((List.nodup_append.1 hn).2.2 a (List.mem_append_left _ e4) a qq4)
def qso(h:xX d)(hl:l.length<=1000)(hn:5000<=n):∃out,mw n d l=some out/\eX out/\out.length<=l.length/\∀x∈out,x∈l/\kW d x:=by
 have hd:=h.len;have:=iL (l:=l) qq0 (F:=fun m z s=>OG d l n m s z) (fun i s=>eX s/\s.length<=i/\∀x∈s,x∈l/\kW d x) (Q:=fun out=>eX out/\out.length<=l.length/\∀x∈out,x∈l/\kW d x)
  (fun m i x s hx aE bH hw hI ih=>by
   obtain⟨i1,i2,i3⟩:=hI;simp only[OG,bH,zC,cP,hx,aM,Sr,hw];rcases jm (d:=d) qq0 x (show d.length<n by omega)with⟨j,y,g1,g2,g3,g4⟩|⟨g1,g2⟩;obtain⟨o,h1,h2,h3,h4⟩:=Gz (l:=s) qq0 i1 x (show s.length<n by omega);have hj:(j:Int)>=0:=by omega
   simp only[g4,aM,hj,yC,zC,h1];refine ih o ⟨h4,by omega,fun z hz=>?_⟩;rcases(h2 z).1 hz with rfl |hz;exact⟨zX hx,y,zX g1,g2⟩;exact i3 z hz;simp only[g2,aM];exact ih s ⟨i1,by omega,i3⟩)
  (fun m s bH hI=>by simp only[OG,bH,zD,su];exact⟨s,rfl,hI⟩) n 0 [] qq0 qq0 ⟨List.Pairwise.nil,by simp,by simp⟩
 rw[zV]at this;exact this
def qnf(h:xX d)(hl:l.length<=1000)(hn:5000<=n):∃out,Iy n d l=some out/\out.length<=l.length/\∀x∈out,x∈l/\kW d x:=by
 obtain⟨all,a1,a2,a3,a4⟩:=qso h hl hn;have:=iL (l:=all) qq0 (F:=fun m z s=>HF d n all m z s) (fun i s=>s.length<=i/\∀x∈s,x∈l/\kW d x) (Q:=fun out=>out.length<=l.length/\∀x∈out,x∈l/\kW d x)
  (fun m i x s hx aE bH hw hI ih=>by
   obtain⟨i2,i3⟩:=hI;have g8:=a4 x (zX hx);obtain⟨up,u1,u2,u3,u4⟩:=z3u h g8.2 hn;simp only[HF,bH,zC,cP,hx,aM,u1];have:=iL (l:=all) qq0 (F:=fun m' z b=>ZH n all i s (HF d n all m) up m' b z) (fun _ _=>True) (Q:=fun out=>out.length<=l.length/\∀x∈out,x∈l/\kW d x)
    (fun m' k y b hy rK dL mF _ kO=>by
     simp only[ZH,dL,zC,mF,cP,hy,aM,NM (l:=up) qq0 y (n:=n) qq0];cases b with
     |true=>rcases((k:Int)==(i:Int))with _|_;exact kO _ trivial;exact kO true trivial
     |false=>exact kO false trivial)
    (fun m' b dL _=>by
     simp only[ZH,dL,zD,sk,So,hw,cP,hx,aM];cases b with
     |true=>simp only[zC];rw[fW qq0];refine ih (s++[x]) ⟨by simp;omega,fun z hz=>?_⟩;rcases yD.1 hz with hz |hz;exact i3 z hz;simp at hz;subst hz;exact g8
     |false=>exact ih s ⟨by omega,i3⟩) n 0 true qq0 qq0 trivial
   rw[zV]at this;exact this)
  (fun m s bH hI=>by simp only[HF,bH,zD,sn];exact⟨s,rfl,by omega,hI.2⟩) n 0 [] qq0 qq0 ⟨by simp,by simp⟩
 rw[zV]at this;rw[Iy,a1];exact this
variable{d:X bG}
variable{n:Nat}
def z94(h:xX d){all:X Str}(lU:all.length<=12){s:Str}(hs:kW d s)(ha:∀x∈all,kW d x)(hn:5000<=n):∃w,Pz n d all s=some (bt w)/\w<4096/\∀i,w.testBit i=true↔∃t,all[i]? = some t/\o7 d t s:=by
 obtain⟨low,b1,b2,b3,b4⟩:=z48 h hs hn;have:=iL (l:=all) qq0 (F:=fun m z (s:X Nat)=>O3 all n low m z (s.map fun(i:Nat)=>(i:Int))) (fun i s=>s.length<=i/\∀j,j∈s↔j<i/\∃t,all[j]? = some t/\t∈low) (Q:=fun r=>∃w,r=bt w/\w<4096/\∀i,w.testBit i=true↔∃t,all[i]? = some t/\o7 d t s)
  (fun m i x s' hx aE bH hw hI ih=>by
   obtain⟨i1,i2⟩:=hI;simp only[O3,bH,zC,cP,hx,aM,NM (l:=low) qq0 x (n:=n) qq0,Ri,hw,yA];by_cases hm:x∈low;simp only[hm,yC,zC];rw[fW qq0];have:=ih (s'++[i]) ⟨by simp;omega,fun j=>by rw[yD,i2,List.mem_singleton];constructor;rintro(⟨h1,h2⟩|rfl);exact⟨by omega,h2⟩;exact⟨by omega,x,hx,hm⟩;rintro⟨h1,h2⟩;by_cases e:j=i;exact .inr e;exact .inl ⟨by omega,h2⟩⟩;rw[List.map_append]at this;exact this;simp only[hm,yB,zD];exact ih s' ⟨by omega,fun j=>by
    rw[i2];constructor;rintro⟨h1,h2⟩;exact⟨by omega,h2⟩;rintro⟨h1,t,h2,h3⟩;refine⟨?_,t,h2,h3⟩;have:j≠i:=fun e=>by subst e;rw[hx]at h2;cases h2;exact hm h3
    omega⟩)
  (fun m s' bH hI=>by
   obtain⟨i1,i2⟩:=hI;have g9:∀i∈s',i<12:=fun i hi=>by have:=((i2 i).1 hi).1;omega
   simp only[O3,bH,zD,yx,Tj (l:=s') qq0 g9 hn,aM];refine⟨_,rfl,HJ s',rfl,tn s' 0 g9 qq0,fun i=>?_⟩;rw[HJ,z7v];simp only[Nat.zero_testBit,Bool.false_or,decide_eq_true_eq];rw[i2];constructor;rintro⟨_,t,h1,h2⟩;exact⟨t,h1,((b4 t).1 h2).2⟩;rintro⟨t,h1,h2⟩;exact⟨(zG.1 h1).1,t,h1,(b4 t).2 ⟨ha t (zX h1),h2⟩⟩) n 0 [] qq0 qq0 ⟨by simp,fun j=>qq4⟩
 obtain⟨r,h1,w,rfl,h2,h3⟩:=this;rw[zV]at h1;exact⟨w,by simp only[Pz,b1,aM];exact h1,h2,h3⟩
structure FI(c0 ws:X Nat):Prop where
 pre:∃t,ws=c0++t
 nod:ws.Nodup
 ok:∀a∈ws,a<4096/\a≠0/\∃b∈c0,a&&&b=a
 len:ws.length<=257
def JU(ws:X Nat)(i k:Nat):Prop:=∀i' k' a b,k'<i'->(i'<i\/(i'=i/\k'<k))->ws[i']? = some a->ws[k']? = some b->a&&&b=0\/a&&&b∈ws
variable{ws:X Nat}
def JU.app{t:X Nat}{i k:Nat}(h:JU ws i k)(hi:i<ws.length):JU (ws++t) i k:=fun i' k' a b h1 h2 h3 h4=>by
 have e1:i'<ws.length:=by omega
 rw[List.getElem?_append_left e1]at h3;rw[List.getElem?_append_left qq0]at h4;rcases h i' k' a b h1 h2 h3 h4 with h5 |h5;exact .inl h5;exact .inr (List.mem_append_left _ h5)
def ww{c0:X Nat}{n:Nat}(hn:5000<=n){i:Nat}{rc:Int->X (X Int)->V (X (X Int))}{Q:X (X Int)->Prop}(IJ:i<=256)(IA:∀ws',FI c0 ws'->i<ws'.length->(ws'.length<=256->JU ws' (i+1) 0)->∃r,rc ((i+1:Nat):Int) (ws'.map bt)=some r/\Q r):
  ∀(m k:Nat)(ws:X Nat),i-k<m->k<=i->FI c0 ws->i<ws.length->(ws.length<=256->JU ws i k)->∃r,SI n i rc m k (ws.map bt)=some r/\Q r
 |0,k,ws,hm,_,_,_,_=>by omega
 |m+1,k,ws,hm,hk,hf,hi,hc=>by
  have hl:=hf.len;have gi:IntKind.i64.wrap ((i:Int)+1)=((i+1:Nat):Int):=W4 qq0 qq0;unfold SI;by_cases aE:k<i;have e0:decide ((k:Int)<(i:Int))=true:=by simp;omega
  simp only[e0,zC,yA];by_cases BN:ws.length<=256;obtain⟨a,ha,BL⟩:=fP hi;obtain⟨b,hb,bk⟩:=fP (show k<ws.length by omega);have e1:decide ((ws.length:Int)<=256)=true:=by simp;omega
  have ga:(ws.map bt)[i]? = some (bt a):=by rw[List.getElem?_map,ha];rfl
  have gb:(ws.map bt)[k]? = some (bt b):=by rw[List.getElem?_map,hb];rfl
  have Bf:IntKind.i64.wrap ((k:Int)+1)=((k+1:Nat):Int):=W4 qq0 qq0;have oka:=hf.ok a BL;have okb:=hf.ok b bk;simp only[e1,aM,zC,cP,ga,gb,z6w oka.1 okb.1 (show 5<=n by omega),Um (ws:=ws) qq0 (b:=a&&&b) hn,Sh,Bf];have BK:∀t,(a&&&b=0\/a&&&b∈ws++t)->JU (ws++t) i (k+1):=fun t ht i' k' x y h1 h2 h3 h4=>by by_cases e:i'=i/\k'=k;obtain⟨rfl,rfl⟩:=e;rw[List.getElem?_append_left hi,ha]at h3;rw[List.getElem?_append_left qq0,hb]at h4;cases h3;cases h4;exact ht;exact(hc BN).app hi i' k' x y h1 qq0 h3 h4
  by_cases hz:a&&&b=0;have e2:decide (((bt (a&&&b)).length:Int)>0)=false:=by rw[hz];simp[QA]
  simp only[e2,zD,aM];refine ww hn IJ IA m (k+1) ws qq0 qq0 hf hi fun _=>?_;have:=BK [] (.inl hz)
  rwa [List.append_nil]at this
  have e2:decide (((bt (a&&&b)).length:Int)>0)=true:=by rw[qW hz];simp
  simp only[e2,zC,aM];by_cases jR:a&&&b∈ws;simp only[jR,yC,Bool.not_true,zD];refine ww hn IJ IA m (k+1) ws qq0 qq0 hf hi fun _=>?_;have:=BK [] (.inr (by simpa using jR))
  rwa [List.append_nil]at this
  simp only[jR,yB,Bool.not_false,zC];rw[fW qq0];have xH:FI c0 (ws++[a&&&b]):=by obtain⟨t,ht⟩:=hf.pre;refine⟨⟨t++[a&&&b],by rw[ht,zT]⟩,?_,fun c hc=>?_,by simp;omega⟩;rw[List.nodup_append];exact⟨hf.nod,by simp,fun x hx y hy e=>by simp at hy;subst hy;subst e;exact jR hx⟩;rcases yD.1 hc with hc |hc;exact hf.ok c hc;simp at hc;subst hc;obtain⟨g,hg,eg⟩:=oka.2.2;refine⟨Nat.lt_of_le_of_lt Nat.and_le_left oka.1,hz,g,hg,?_⟩;rw[Nat.and_assoc,Nat.and_comm b g,<-Nat.and_assoc,eg]
  have:=ww hn IJ IA m (k+1) (ws++[a&&&b]) qq0 qq0 xH (by simp;omega) fun _=>BK [a&&&b] (.inr qq4);rw[List.map_append]at this;exact this;have e1:decide ((ws.length:Int)<=256)=false:=by simp;omega
  simp only[e1,aM,zD,Se,gi];exact IA ws hf hi fun h=>absurd h BN;have e0:decide ((k:Int)<(i:Int))=false:=by simp;omega
  simp only[e0,zD,aM,Se,gi];refine IA ws hf hi fun h i' k' a b h1 h2 h3 h4=>hc h i' k' a b h1 qq0 h3 h4
def z7e{c0:X Nat}{n:Nat}(hn:5000<=n):∀(m i:Nat)(ws:X Nat),258-i<=m->i<=257->FI c0 ws->i<=ws.length->(ws.length<=256->JU ws i 0)->
  ∃r,LF n m i (ws.map bt)=some r/\∃ws',r=ws'.map bt/\FI c0 ws'/\(ws'.length<=256->JU ws' ws'.length 0)
 |0,i,ws,hm,_,_,_,_=>by omega
 |m+1,i,ws,hm,hi,hf,lS,hc=>by
  have hl:=hf.len;unfold LF;simp only[yA];by_cases aE:i<ws.length;by_cases BN:ws.length<=256;have e1:decide ((ws.length:Int)<=256)=true:=by simp;omega
  simp only[jB aE,zC,e1,aM];have:=ww (c0:=c0) hn (i:=i) (rc:=LF n m) (Q:=fun r=>∃ws',r=ws'.map bt/\FI c0 ws'/\(ws'.length<=256->JU ws' ws'.length 0)) qq0 (fun ws' f1 f2 f3=>z7e hn m (i+1) ws' qq0 qq0 f1 qq0 f3) n 0 ws qq0 qq0 hf aE hc;rw[zV]at this;exact this;have e1:decide ((ws.length:Int)<=256)=false:=by simp;omega
  simp only[jB aE,zC,e1,aM,zD,Sf];exact⟨_,rfl,ws,rfl,hf,fun h=>absurd h BN⟩;simp only[jV aE,zD,aM,Sf];have:i=ws.length:=by omega
  exact⟨_,rfl,ws,rfl,hf,this ▸ hc⟩
def Q5(ws:X Nat):Prop:=∀a∈ws,∀b∈ws,a&&&b≠0->a&&&b∈ws
def JU.all(h:JU ws ws.length 0):Q5 ws:=fun a ha b hb cR=>by
 obtain⟨i,hi,rfl⟩:=List.mem_iff_getElem.1 ha;obtain⟨k,hk,rfl⟩:=List.mem_iff_getElem.1 hb;by_cases e:i=k;subst e;rw[Nat.and_self];exact ha;by_cases aE:k<i;exact(h i k _ _ aE (.inl hi) (List.getElem?_eq_getElem hi) (List.getElem?_eq_getElem hk)).resolve_left cR;rw[Nat.and_comm]at cR ⊢;exact(h k i _ _ qq0 (.inl hk) (List.getElem?_eq_getElem hk) (List.getElem?_eq_getElem hi)).resolve_left cR
def qzc{c0:X Nat}(hl:c0.length<=12)(gz:c0.Nodup)(hc:∀a∈c0,a<4096/\a≠0)(hn:5000<=n):∃ws,Qw n (c0.map bt)=some (ws.map bt)/\FI c0 ws/\(ws.length<=256->Q5 ws):=by obtain⟨r,h1,ws,rfl,h2,h3⟩:=z7e (c0:=c0) hn n 0 c0 qq0 qq0 ⟨⟨[],by simp⟩,gz,fun a ha=>⟨(hc a ha).1,(hc a ha).2,a,ha,Nat.and_self a⟩,by omega⟩ qq0 (fun _ i' k' a b h1 h2=>qq0);rw[zV]at h1;refine⟨ws,?_,h2,fun h=>(h3 h).all⟩;rw[Qw,fW (by rw[yA];omega)];exact h1
def Af{l:X Str}(hl:l.length<=12)(hs:∀s∈l,s.length<=32)(hn:5000<=n):∃s,L9 l n [] 0=some s:=by
 have:=iL (l:=l) qq0 (F:=fun m z s=>L9 l m s z) (fun i s=>s.length<=33*i) (Q:=fun _=>True)
  (fun m i x s hx aE bH hw hI ih=>by
   have LU:=hs x (zX hx);simp only[L9,bH,zC,Rh,cP,hx,aM,hw];cases decide ((i:Int)>0)with
   |true=>simp only[zC];rw[fW (by show s.length+1<=_;omega),fW (by rw[zU];show s.length+1+x.length<=_;omega)];exact ih _ (by rw[zU,zU];show s.length+1+x.length<=_;omega)|false=>simp only[zD];rw[fW qq0];exact ih _ (by rw[zU];omega))
  (fun m s bH hI=>by simp only[L9,bH,zD,yu];exact⟨s,rfl,trivial⟩) n 0 [] qq0 qq0 qq4
 obtain⟨s,h1,_⟩:=this;exact⟨s,h1⟩
def qvn(h:xX d){all:X Str}(lU:all.length<=12){c0:X Nat}(PA:c0.length=all.length)(hc:∀a∈c0,a<4096){w:Nat}(hw:w<4096)(hn:5000<=n):
  ∃s,Py n d all (c0.map bt) (bt w)=some s/\∀(i:Nat)(t:Str),c0.Nodup->c0[i]? = some w->all[i]? = some t->s=t:=by
 have:=iL (l:=all) qq0 (F:=fun m z s=>O2 d all (c0.map bt) (bt w) n m z s) (fun i (s:X Str)=>s.length<=i/\∀j,j<i->c0[j]? ≠some w) (Q:=fun s=>∀(i:Nat)(t:Str),c0.Nodup->c0[i]? = some w->all[i]? = some t->s=t)
  (fun m i x s hx aE bH nV hI ih=>by
   obtain⟨a,ha,BL⟩:=fP (l:=c0) (show i<c0.length by omega);have ga:(c0.map bt)[i]? = some (bt a):=by rw[List.getElem?_map,ha];rfl
   simp only[O2,bH,zC,cP,ga,hx,aM,z4u (hc a BL) hw (show 5<=n by omega),z7m (w:=w) (n:=n) hw (show i<64 by omega),Rg,nV];by_cases e:a=w;subst e;simp only[yC,zC];refine⟨x,rfl,fun k t oS hk ht=>?_⟩;obtain⟨p1,p2⟩:=zG.1 ha;obtain⟨q1,q2⟩:=zG.1 hk;have:i=k:=(List.getElem_inj oS).1 (p2.trans q2.symm);subst this;rw[hx]at ht;exact Option.some.inj ht;have eT:∀j,j<i+1->c0[j]? ≠some w:=fun j hj=>by by_cases e2:j=i;subst e2;rw[ha];exact fun h=>e (Option.some.inj h);exact hI.2 j qq0
   simp only[e,yB,zD];cases w.testBit i with
   |true=>simp only[zC];rw[fW (by have:=hI.1;omega)];exact ih (s++[x]) ⟨by have:=hI.1;simp;omega,eT⟩|false=>exact ih s ⟨by have:=hI.1;omega,eT⟩)
  (fun m s bH hI=>by obtain⟨out,m1,m2,m3⟩:=qnf h (l:=s) (by have:=hI.1;omega) hn;obtain⟨r,j1⟩:=Af (l:=out) (by have:=hI.1;omega) (fun t ht=>by obtain⟨x,hx,e⟩:=(m3 t ht).2;have:=(h.nam.len x hx).2;rw[e]at this;exact this) hn;simp only[O2,bH,zD,yw,m1,aM];refine⟨r,j1,fun i t _ hi _=>absurd hi (hI.2 i ?_)⟩;have:=(zG.1 hi).1;omega) n 0 [] qq0 qq0 ⟨by simp,fun j hj=>qq0⟩
 rw[zV]at this;exact this
def cw:X Int->Nat
 |[z]=>z.toNat|_=>0
def H3(w:Nat):cw (bt w)=w:=by by_cases h:w=0;subst h;rfl;rw[qW h];simp[cw]
def cnt(x:dN):Nat:=(bl (cw x.Code)).length
def qyp{x y:dN}{a b:Nat}(hx:x.Code=bt a)(hy:y.Code=bt b)(ha:a<4096)(hb:b<4096)(hn:5000<=n):∃r,Qx n x y=some r/\(r=true->cnt y<=cnt x)/\(r=false->cnt x<=cnt y):=by
 have e1:cnt x=(bl a).length:=by rw[cnt,hx,H3]
 have e2:cnt y=(bl b).length:=by rw[cnt,hy,H3]
 rw[e1,e2];simp only[Qx,hx,hy,qum ha (show 100<=n by omega),qum hb (show 100<=n by omega),aM];by_cases h1:((bl a).length:Int)>((bl b).length:Int);simp only[h1,yC,zC,aM];exact⟨true,rfl,fun _=>qq0,fun h=>by cases h⟩;simp only[h1,yB,zD];by_cases h2:((bl a).length:Int)=((bl b).length:Int);have:(((bl a).length:Int)==((bl b).length:Int))=true:=by simpa using h2
 simp only[this,zC,aM];exact⟨_,rfl,fun _=>qq0,fun _=>qq0⟩;have:(((bl a).length:Int)==((bl b).length:Int))=false:=by simpa using h2
 simp only[this,zD,aM];exact⟨false,rfl,fun h=>(by cases h),fun _=>qq0⟩
structure CI(nm:Nat->V Str)(ws:X Nat)(l:X dN):Prop where
 perm:(l.map dN.Code).Perm (ws.map bt)
 nam:∀w∈ws,∃x∈l,x.Code=bt w/\nm w=some x.Name
 srt:l.Pairwise fun a b=>cnt b<=cnt a
variable{nm:Nat->V Str}
variable{l:X dN}
def CI.len(h:CI nm ws l):l.length=ws.length:=by
 have:=h.perm.length_eq
 rwa [yA,yA]at this
def CI.cod(h:CI nm ws l):∀x∈l,∃w∈ws,x.Code=bt w:=fun x hx=>by
 have:=h.perm.mem_iff.1 (List.mem_map_of_mem (f:=dN.Code) hx);obtain⟨w,hw,e⟩:=List.mem_map.1 this;exact⟨w,hw,e.symm⟩
def Tz(h:CI nm ws l)(hl:l.length<=300)(hws:∀w∈ws,w<4096){w:Nat}(hw:w<4096){s:Str}(hs:nm w=some s)(hn:5000<=n){dP:Int}{rc:Int->X dN->V (X dN×Int)}{Q:X dN×Int->Prop}
  (IA:∀l',CI nm (ws++[w]) l'->∃r,rc (IntKind.i64.wrap (dP+1)) l'=some r/\Q r):
  ∀(m z:Nat),z<m->z<=l.length->(∀y∈l.drop z,cnt y<=cnt ⟨s,bt w⟩)->∃r,Jf n dP l rc s (bt w) m z=some r/\Q r:=by
 have fin:∀z,z<=l.length->(∀y∈l.drop z,cnt y<=cnt ⟨s,bt w⟩)->(∀y∈l.take z,cnt ⟨s,bt w⟩<=cnt y)->∃r,Rw dP l rc s (bt w) z=some r/\Q r:=by
  intro z hz FO Wm;have t1:((l.drop 0).take ((z:Int)).toNat)=l.take z:=by rw[List.drop_zero,zZ]
  have t2:((l.drop (0+((z:Int)).toNat)).take (l.length-((z:Int)).toNat))=l.drop z:=by rw[zZ,Nat.zero_add];exact zW qq4
  have tl:(l.take z).length=z:=by simp;omega
  have dl:(l.drop z).length=l.length-z:=by simp
  simp only[Rw,t1,t2];rw[fW qq0,fW (by rw[zZ];omega),fW (by rw[tl];omega),fW (by rw[tl];omega),fW qq0,fW (by rw[zZ];omega),fW (by rw[zU,tl,dl];simp;omega)];refine IA _ ⟨?_,fun v hv=>?_,?_⟩;have hp:((l.take z++[dN.mk s (bt w)])++l.drop z).Perm (l++[dN.mk s (bt w)]):=by rw[zT];refine(List.perm_append_comm_assoc _ _ _).trans ?_;rw[List.take_append_drop];exact List.perm_append_comm
  refine(hp.map dN.Code).trans ?_;rw[List.map_append,List.map_append];exact h.perm.append_right _;rcases yD.1 hv with hv |hv;obtain⟨x,hx,e1,e2⟩:=h.nam v hv;refine⟨x,?_,e1,e2⟩;rw[<-List.take_append_drop z l]at hx;rcases yD.1 hx with hx |hx;exact List.mem_append_left _ (List.mem_append_left _ hx);exact List.mem_append_right _ hx;simp at hv;subst hv;exact⟨⟨s,bt v⟩,by simp,rfl,hs⟩;have h1:=h.srt;rw[<-List.take_append_drop z l,List.pairwise_append]at h1;rw[List.pairwise_append,List.pairwise_append];refine⟨⟨h1.1,by simp,fun a ha b hb=>by simp at hb;subst hb;exact Wm a ha⟩,h1.2.1,fun a ha b hb=>?_⟩;rcases yD.1 ha with ha |ha;exact h1.2.2 a ha b hb;simp at ha;subst ha;exact FO b hb
 intro m;induction m with
 |zero=>intro z hm;omega|succ m ih=>
  intro z hm hz FO;unfold Jf;by_cases h0:z=0;subst h0;simp only[zV,Int.lt_irrefl,yB,zD,aM,show((0:Int)>0)=False by simp];have:=fin 0 qq0 FO qq4
  rwa [zV]at this
  have e0:decide ((z:Int)>0)=true:=by simp;omega
  have e1:IntKind.i64.wrap ((z:Int)-1)=((z-1:Nat):Int):=W4 qq0 qq0;obtain⟨y,hy,E6⟩:=fP (l:=l) (show z-1<l.length by omega);obtain⟨v,hv,ev⟩:=h.cod y E6;obtain⟨r,r1,r2,r3⟩:=qyp (x:=⟨s,bt w⟩) (y:=y) rfl ev hw (hws v hv) hn;simp only[e0,zC,e1,cP,hy,aM,r1];cases r with
  |true=>
   simp only[zC];refine ih (z-1) qq0 qq0 fun x hx=>?_;rw[aX hy,show z-1+1=z by omega]at hx;rcases zI.1 hx with rfl |hx
   exact r2 rfl;exact FO x hx
  |false=>
   simp only[zD];refine fin z hz FO fun x hx=>?_;have h1:=h.srt;rw[<-List.take_append_drop (z-1) l,List.pairwise_append]at h1;have:l.take z=l.take (z-1)++[y]:=by rw[<-jG hy,show z-1+1=z by omega]
   rw[this]at hx;rcases yD.1 hx with hx |hx;exact Nat.le_trans (r3 rfl) (h1.2.2 x hx y (by rw[aX hy];simp));simp at hx;subst hx;exact r3 rfl
def XA(h:xX d):∃s0,kW d s0/\∀s,kW d s->o7 d s s0:=by
 obtain⟨l,hl,aQ⟩:=h.ord;have bY:∀s,kW d s->s∈l:=fun s ⟨x,hx,e⟩=>by
  apply Classical.byContradiction;intro hn;have h3:=Pn (a:=s::l) (b:=d.map bG.Name) (List.nodup_cons.2 ⟨hn,hl.nodup.1⟩) fun t ht=>by rcases zI.1 ht with rfl |ht;rw[<-e];exact List.mem_map_of_mem hx;obtain⟨y,hy,rfl⟩:=hl.nodup.2 t ht;exact List.mem_map_of_mem hy
  simp at h3;omega
 obtain⟨x0,qK⟩:∃x0,d.filter (fun x=>decide (x.Supers=[]))=[x0]:=List.length_eq_one_iff.1 h.one;have Vv:x0∈d:=(List.mem_filter.1 (show x0∈d.filter (fun x=>decide (x.Supers=[])) by rw[qK];simp)).1;refine⟨x0.Name,⟨x0,Vv,rfl⟩,fun s hs=>?_⟩;have key:∀{l:X Str},Ord d l->∀s∈l,o7 d s x0.Name:=by
  intro l hl;induction hl with
  |nil=>intro s hs;cases hs| @snoc l x g1 g2 g3 g4 ih=>
   intro s hs;rcases yD.1 hs with hs |hs;exact ih s hs;simp at hs;subst hs;cases hsup:x.Supers with
   |nil=>have:x∈d.filter (fun x=>decide (x.Supers=[])):=List.mem_filter.2 ⟨g2,by simp[hsup]⟩;rw[qK]at this;simp at this;rw[this];exact .refl|cons u us=>
    have hu:u∈x.Supers:=by rw[hsup];simp
    exact o7.trans (.step .refl g2 rfl hu) (ih u (g4 u hu))
 exact key hl s (bY s hs)
structure G1(d:X bG)(l:X dN):Prop where
 ws:∃(nm:Nat->V Str)(c0 ws:X Nat),FI c0 ws/\Q5 ws/\CI nm ws l/\ws.length<=256/\0<ws.length
 dcl:∀s,kW d s->∃x∈l,x.Name=s
 top:∃w0,(∃x∈l,x.Code=bt w0)/\∀x∈l,w0&&&cw x.Code=cw x.Code
def G1.len{d:X bG}{l:X dN}(h:G1 d l):l.length<=256/\0<l.length:=by obtain⟨nm,c0,ws,h1,h2,h3,h4,h5⟩:=h.ws;have:=h3.len;omega
def G1.cod{d:X bG}{l:X dN}(h:G1 d l):∀x∈l,∃w,x.Code=bt w/\w<4096/\w≠0:=fun x hx=>by
 obtain⟨nm,c0,ws,h1,h2,h3,h4,h5⟩:=h.ws;obtain⟨w,hw,e⟩:=h3.cod x hx;exact⟨w,e,(h1.ok w hw).1,(h1.ok w hw).2.1⟩
def z4o(hd:d.length<=12)(hn:5000<=n):∃l e,NU n d=some (l,e)/\(e=0->xX d/\G1 d l):=by
 obtain⟨e,c1,c2⟩:=qz2 hd hn;simp only[NU,c1,aM];by_cases he:e=0;subst he;have h:=c2 rfl;obtain⟨all,n1,n2⟩:=names_ok (d:=d) qq0 hn;have lU:all.length<=12:=by have:=n2.len;simp at this;omega
 have bY:∀s,s∈all↔kW d s:=fun s=>by rw[n2.mem];simp[kW,List.mem_map]
 simp only[bne_self_eq_false,zD,n1,aM];have:=iL (l:=all) qq0 (F:=fun m z (s:X Nat)=>Z6 d n all m z (s.map bt)) (fun i s=>s.length=i/\(∀w∈s,w<4096)/\∀(j w:Nat)(t:Str),s[j]? = some w->all[j]? = some t->∀i:Nat,w.testBit i=true↔∃u,all[i]? = some u/\o7 d u t) (Q:=fun r=>r.2=0->xX d/\G1 d r.1)
  (fun m i x s hx aE bH hw hI ih=>by
   obtain⟨i1,i2,i3⟩:=hI;obtain⟨w,w1,w2,w3⟩:=z94 h lU ((bY x).1 (zX hx)) (fun y hy=>(bY y).1 hy) hn;simp only[Z6,bH,zC,cP,hx,aM,w1,hw,yA];rw[fW qq0];have:=ih (s++[w]) ⟨by simp;omega,fun v hv=>by
    rcases yD.1 hv with hv |hv;exact i2 v hv;simp at hv;subst hv;exact w2,fun j v t hj ht=>by
    by_cases e:j<s.length;rw[List.getElem?_append_left e]at hj;exact i3 j v t hj ht;have:j=i:=by have:=(zG.1 hj).1;simp at this;omega
    subst this;rw[List.getElem?_append_right qq0,i1,Nat.sub_self]at hj;simp at hj;subst hj;rw[hx]at ht;cases ht;exact w3⟩
   rw[List.map_append]at this;exact this)
  (fun m c0 bH hI=>by
   obtain⟨i1,i2,i3⟩:=hI;have CH:∀(j w:Nat),c0[j]? = some w->w.testBit j=true:=fun j w hj=>by obtain⟨t,ht,_⟩:=fP (l:=all) (show j<all.length by have:=(zG.1 hj).1;omega);exact(i3 j w t hj ht j).2 ⟨t,ht,.refl⟩
   have Wu:c0.Nodup:=by rw[List.Nodup,List.pairwise_iff_getElem];intro a b ha hb PJ e;obtain⟨s,hs,I4⟩:=fP (l:=all) (show a<all.length by omega);obtain⟨t,ht,htm⟩:=fP (l:=all) (show b<all.length by omega);have ga:=List.getElem?_eq_getElem ha;have gb:=List.getElem?_eq_getElem hb;have h1:=CH a _ ga;have h2:=CH b _ gb;rw[e]at h1;rw[<-e]at h2;obtain⟨u,hu,hu2⟩:=(i3 b _ t gb ht a).1 h1;obtain⟨v,hv,hv2⟩:=(i3 a _ s ga hs b).1 h2;rw[hs]at hu;cases hu;rw[ht]at hv;cases hv;have:=zau h ((bY s).1 I4) ((bY t).1 htm) hu2 hv2;subst this;obtain⟨p1,p2⟩:=zG.1 hs;obtain⟨q1,q2⟩:=zG.1 ht;have:=(List.getElem_inj n2.asc.nodup).1 (p2.trans q2.symm);omega
   have hok0:∀a∈c0,a<4096/\a≠0:=fun a ha=>⟨i2 a ha,fun e=>by obtain⟨j,hj,e2⟩:=List.mem_iff_getElem.1 ha;have:=CH j a (by rw[List.getElem?_eq_getElem hj,e2]);rw[e]at this;simp at this⟩;obtain⟨ws,f1,f2,f3⟩:=qzc (c0:=c0) qq0 Wu hok0 hn;simp only[Z6,bH,zD,mm,f1,aM,yA];by_cases BN:(ws.length:Int)>256;simp only[BN,yC,zC];exact⟨_,rfl,fun h=>by cases h⟩;simp only[BN,yB,zD];have aQ:ws.length<=256:=by omega
   have:=iL (l:=ws) qq0 (F:=fun m z (s:X dN)=>O9 d n all (c0.map bt) (ws.map bt) m z s) (fun i s=>CI (fun w=>Py n d all (c0.map bt) (bt w)) (ws.take i) s) (Q:=fun r=>r.2=0->xX d/\G1 d r.1)
    (fun m' i w s hx aE dL mF iV kO=>by
     have yU:=zX hx;have okw:=f2.ok w yU;obtain⟨t,t1,t2⟩:=qvn h lU (c0:=c0) i1 i2 okw.1 hn;have wQ:(ws.map bt)[i]? = some (bt w):=by rw[List.getElem?_map,hx];rfl
     have I5:=iV.len;rw[List.length_take]at I5;simp only[O9,yA,dL,zC,cP,wQ,aM,t1];refine Tz (w:=w) (s:=t) iV qq0 (fun v hv=>(f2.ok v (List.mem_of_mem_take hv)).1) okw.1 t1 hn (fun l' BE=>?_) n s.length qq0 qq0 qq4;rw[mF];rw[<-jG hx]at BE;exact kO l' BE)
    (fun m' s dL iV=>by
     rw[zW (zF _)]at iV;simp only[O9,yA,dL,zD,ml];have iQ:0<ws.length:=by
      have wX:0<d.length:=by have:=h.one;rcases d with _|⟨x,d⟩;simp at this;simp
      obtain⟨x,hx,g8⟩:=fP (l:=d) wX;have:=(bY x.Name).2 ⟨x,g8,rfl⟩;have:=List.length_pos_of_mem this;obtain⟨t,ht⟩:=f2.pre;rw[ht,zU];omega
     have B6:∃w0,(∃x∈s,x.Code=bt w0)/\∀x∈s,w0&&&cw x.Code=cw x.Code:=by
      obtain⟨s0,q1,q2⟩:=XA h;obtain⟨j,hj,e⟩:=List.mem_iff_getElem.1 ((bY s0).2 q1);have tS:j<c0.length:=by omega
      obtain⟨p,hp⟩:=f2.pre;have yU:c0[j]∈ws:=by rw[hp];exact List.mem_append_left _ (List.getElem_mem tS)
      obtain⟨x,hx,gg,_⟩:=iV.nam _ yU;have full:∀i,i<all.length->(c0[j]).testBit i=true:=fun i hi=>by obtain⟨u,hu,gk⟩:=fP hi;exact(i3 j _ s0 (List.getElem?_eq_getElem tS) (by rw[List.getElem?_eq_getElem hj,e]) i).2 ⟨u,hu,q2 u ((bY u).1 gk)⟩
      refine⟨c0[j],⟨x,hx,gg⟩,fun y hy=>?_⟩;obtain⟨w,hw,ew⟩:=iV.cod y hy;rw[ew,H3];obtain⟨_,_,b,hb,PJ⟩:=f2.ok w hw;refine Nat.eq_of_testBit_eq fun i=>?_;rw[Nat.testBit_and];rcases gi:w.testBit i with _|_
      simp;have xJ:b.testBit i=true:=by have:=congrArg (fun z=>z.testBit i) PJ;simp only[Nat.testBit_and,gi,Bool.true_and]at this;exact this
      obtain⟨k,hk,e2⟩:=List.mem_iff_getElem.1 hb;obtain⟨t,ht,_⟩:=fP (l:=all) (show k<all.length by omega);obtain⟨u,hu,_⟩:=(i3 k b t (by rw[List.getElem?_eq_getElem hk,e2]) ht i).1 xJ;rw[full i (zG.1 hu).1];rfl
     refine⟨_,rfl,fun _=>⟨h,⟨_,c0,ws,f2,f3 aQ,iV,aQ,iQ⟩,fun t ht=>?_,B6⟩⟩;obtain⟨j,hj,e⟩:=List.mem_iff_getElem.1 ((bY t).2 ht);have tS:j<c0.length:=by omega
     obtain⟨p,hp⟩:=f2.pre;have yU:c0[j]∈ws:=by rw[hp];exact List.mem_append_left _ (List.getElem_mem tS)
     obtain⟨x,hx,_,e2⟩:=iV.nam _ yU;refine⟨x,hx,?_⟩;obtain⟨s2,t1,t2⟩:=qvn h lU (c0:=c0) i1 i2 (f2.ok _ yU).1 hn;rw[t1]at e2;rw[<-Option.some.inj e2];exact t2 j t Wu (List.getElem?_eq_getElem tS) (by rw[List.getElem?_eq_getElem hj,e])) n 0 [] qq0 qq0 ⟨by simp,by simp,List.Pairwise.nil⟩
   rw[zV]at this;exact this) n 0 [] qq0 qq0 ⟨rfl,by simp,fun j w t hj=>by simp at hj⟩
 rw[zV]at this;obtain⟨r,h1,h2⟩:=this;exact⟨r.1,r.2,h1,h2⟩;have:(e != 0)=true:=by simpa using he
 simp only[this,zC];exact⟨[],e,rfl,fun h=>absurd h he⟩
variable{n:Nat}
def qwt{x:bG}(hx:x.Feats.length<=256)(s:Str)(hn:5000<=n):∃r,Ql n x s=some r/\(r.2=true->∃f∈x.Feats,f.Feat=s/\f.Value=r.1):=by
 have:=iL (l:=x.Feats) qq0 (F:=fun m z (_:Unit)=>Z2 x s m z) (fun _ _=>True) (Q:=fun r=>r.2=true->∃f∈x.Feats,f.Feat=s/\f.Value=r.1)
  (fun m i f _ hf aE bH hw _ ih=>by simp only[Z2,bH,zC,cP,hf,aM,JK,hw];by_cases e:f.Feat=s;simp only[e,yC,zC];exact⟨_,rfl,fun _=>⟨f,zX hf,e,rfl⟩⟩;simp only[e,yB,zD];exact ih () trivial)
  (fun m _ bH _=>by simp only[Z2,bH,zD,lw];exact⟨_,rfl,fun h=>by cases h⟩) n 0 () qq0 qq0 trivial
 rw[zV]at this;exact this
variable{l:X dN}
def T_(hl:l.length<=256)(s:Str)(hn:5000<=n):∃r,Im n l s=some r/\((∃x∈l,x.Name=s)->∃j:Nat,r=(j:Int)/\j<l.length):=by
 have:=iL (l:=l) qq0 (F:=fun m z (_:Unit)=>ZE l s m z) (fun i _=>∀x∈l.take i,x.Name≠s) (Q:=fun r=>(∃x∈l,x.Name=s)->∃j:Nat,r=(j:Int)/\j<l.length)
  (fun m i x _ hx aE bH hw hI ih=>by
   simp only[ZE,bH,zC,cP,hx,aM,JK,hw];by_cases e:x.Name=s;simp only[e,yC,zC];exact⟨_,rfl,fun _=>⟨i,rfl,aE⟩⟩;simp only[e,yB,zD];refine ih () fun y hy=>?_;rw[jG hx]at hy;rcases yD.1 hy with hy |hy
   exact hI y hy;simp at hy;subst hy;exact e)
  (fun m _ bH hI=>by rw[zW (zF _)]at hI;simp only[ZE,bH,zD,ut];exact⟨_,rfl,fun⟨x,hx,e⟩=>absurd e (hI x hx)⟩) n 0 () qq0 qq0 qq4
 rw[zV]at this;exact this
variable{d:X bG}
def z4w(hd:d.length<=12)(hf:∀x∈d,x.Feats.length<=256)(hn:5000<=n):∃f,YR n d=some f/\eX f/\f.length<=3072/\∀s∈f,∃x∈d,∃y∈x.Feats,y.Feat=s:=by
 have:=iL (l:=d) qq0 (F:=fun m z s=>LA d n m s z) (fun i s=>eX s/\s.length<=256*i/\∀t∈s,∃x∈d,∃y∈x.Feats,y.Feat=t) (Q:=fun f=>eX f/\f.length<=3072/\∀s∈f,∃x∈d,∃y∈x.Feats,y.Feat=s)
  (fun m i x s hx aE bH hw hI ih=>by
   obtain⟨i1,i2,i3⟩:=hI;have g8:=zX hx;have hxf:=hf x g8;simp only[LA,bH,zC];have:=iL (l:=x.Feats) qq0 (F:=fun m' z s'=>Z3 d n i (LA d n m) m' s' z) (fun k s'=>eX s'/\s'.length<=s.length+k/\∀t∈s',∃x∈d,∃y∈x.Feats,y.Feat=t) (Q:=fun f=>eX f/\f.length<=3072/\∀s∈f,∃x∈d,∃y∈x.Feats,y.Feat=s)
    (fun m' k y s' hy rK dL mF iV kO=>by obtain⟨j1,j2,j3⟩:=iV;obtain⟨o,h1,h2,h3,h4⟩:=Gz (l:=s') qq0 j1 y.Feat (show s'.length<n by omega);simp only[Z3,cP,hx,aM,dL,zC,hy,h1,mF];refine kO o ⟨h4,by omega,fun t ht=>?_⟩;rcases(h2 t).1 ht with rfl |ht;exact⟨x,g8,y,zX hy,rfl⟩;exact j3 t ht)
    (fun m' s' dL iV=>by obtain⟨j1,j2,j3⟩:=iV;simp only[Z3,cP,hx,aM,dL,zD,me,hw];exact ih s' ⟨j1,by omega,j3⟩) n 0 s qq0 qq0 ⟨i1,by omega,i3⟩
   rw[zV]at this;exact this)
  (fun m s bH hI=>by simp only[LA,bH,zD,mf];exact⟨s,rfl,hI.1,by have:=hI.2.1;omega,hI.2.2⟩) n 0 [] qq0 qq0 ⟨List.Pairwise.nil,by simp,by simp⟩
 rw[zV]at this;exact this
def qxe(s:Str)(hn:40<=n):∃r,Z0 n s=some r:=by obtain⟨r,h1,_⟩:=qvo s true hn;exact⟨r,by simp[Z0,h1,aM]⟩
def EO(d:X bG)(n:Nat)(x:bG):Prop:=∀f∈x.Feats,Z0 n f.Feat=some true/\kW d f.Value
def ql1(h:xX d)(hn:5000<=n):∃e,Ss n d=some e/\(e=0->∀x∈d,EO d n x):=by
 have hd:=h.len;obtain⟨all,n1,n2⟩:=names_ok (d:=d) qq0 hn;have lU:all.length<=12:=by have:=n2.len;simp at this;omega
 have bY:∀s,s∈all↔kW d s:=fun s=>by rw[n2.mem];simp[kW,List.mem_map]
 have:=iL (l:=d) qq0 (F:=fun m z (_:Unit)=>DU d n all m z) (fun i _=>∀x∈d.take i,EO d n x) (Q:=fun e=>e=0->∀x∈d,EO d n x)
  (fun m i x _ hx aE bH hw hI ih=>by
   have hxf:=(h.siz x (zX hx)).2;simp only[DU,bH,zC,cP,hx,aM];have:=iL (l:=x.Feats) qq0 (F:=fun m' z (_:Unit)=>LK n all i (DU d n all m) x m' z) (fun k _=>∀f∈x.Feats.take k,Z0 n f.Feat=some true/\kW d f.Value) (Q:=fun e=>e=0->∀x∈d,EO d n x)
    (fun m' k f _ hf rK dL mF iV kO=>by
     obtain⟨r,r1⟩:=qxe f.Feat (n:=n) qq0;simp only[LK,dL,zC,cP,hf,aM,r1];rcases r with _|_;exact⟨1,rfl,fun h=>by cases h⟩;simp only[Bool.not_true,zD];have hk:((k:Int)<=(x.Feats.length:Int)):=by omega
     have key:∀(m3 j:Nat),k-j<m3->j<=k->∃e,Jr n all x k (LK n all i (DU d n all m) x m') m3 j=some e/\(e=0->∀x∈d,EO d n x):=by
      intro m3;induction m3 with
      |zero=>intro j hm;omega|succ m3 pu=>
       intro j hm hj;unfold Jr;by_cases ED:j<k;obtain⟨g,hg,_⟩:=fP (l:=x.Feats) (show j<x.Feats.length by omega);have e0:decide ((j:Int)<(k:Int))=true:=by simp;omega
       have e1:IntKind.i64.wrap ((j:Int)+1)=((j+1:Nat):Int):=W4 qq0 qq0;simp only[e0,zC,cP,hg,hf,aM,e1];rcases lO g.Feat f.Feat with _|_;exact pu (j+1) qq0 qq0;exact⟨4,rfl,fun h=>by cases h⟩;have e0:decide ((j:Int)<(k:Int))=false:=by simp;omega
       simp only[e0,zD,sy,cP,hf,aM,NM (l:=all) qq0 f.Value (n:=n) qq0,mF];by_cases uJ:f.Value∈all;simp only[uJ,yC,Bool.not_true,zD];refine kO () fun y hy=>?_;rw[jG hf]at hy;rcases yD.1 hy with hy |hy
       exact iV y hy;simp at hy;subst hy;exact⟨r1,(bY _).1 uJ⟩;simp only[uJ,yB,Bool.not_false,zC];exact⟨5,rfl,fun h=>by cases h⟩
     have:=key n 0 qq0 qq0;rw[zV]at this;exact this)
    (fun m' _ dL iV=>by
     rw[zW (zF _)]at iV;simp only[LK,dL,zD,pa,hw];refine ih () fun y hy=>?_;rw[jG hx]at hy;rcases yD.1 hy with hy |hy
     exact hI y hy;simp at hy;subst hy;exact iV) n 0 () qq0 qq0 qq4
   rw[zV]at this;exact this)
  (fun m _ bH hI=>by rw[zW (zF _)]at hI;simp only[DU,bH,zD,pb];exact⟨0,rfl,fun _=>hI⟩) n 0 () qq0 qq0 qq4
 rw[zV]at this;simp only[Ss,n1,aM];exact this
def qv9(h:xX d)(s:Str)(hn:5000<=n):∃r,Qm n d s=some r:=by
 have hd:=h.len;have:=iL (l:=d) qq0 (F:=fun m z t=>O8 d s n m t z) (fun i t=>eX t/\t.length<=i) (Q:=fun _=>True)
  (fun m i x t hx aE bH hw hI ih=>by
   obtain⟨i1,i2⟩:=hI;obtain⟨r,r1,_⟩:=qwt (h.siz x (zX hx)).2 s hn;simp only[O8,bH,zC,cP,hx,aM,r1,Ru,hw];cases r.2 with
   |true=>obtain⟨o,h1,h2,h3,h4⟩:=Gz (l:=t) qq0 i1 x.Name (show t.length<n by omega);simp only[zC,h1,aM];exact ih o ⟨h4,by omega⟩
   |false=>exact ih t ⟨i1,by omega⟩)
  (fun m t bH hI=>by
   obtain⟨out,m1,m2,m3⟩:=qnf h (l:=t) (by have:=hI.2;omega) hn;simp only[O8,bH,zD,mc,m1,aM];by_cases e:(out.length:Int)=1;obtain⟨x,hx,_⟩:=fP (l:=out) (show 0<out.length by omega);have h0:aB out 0=some x:=by rw[<-hx];exact cP 0
   simp only[e,bne_self_eq_false,zD,h0,aM];exact⟨_,rfl,trivial⟩;have:((out.length:Int) != 1)=true:=by simpa using e
   simp only[this,zC];exact⟨_,rfl,trivial⟩) n 0 [] qq0 qq0 ⟨List.Pairwise.nil,by simp⟩
 rw[zV]at this;obtain⟨r,h1,_⟩:=this;exact⟨r,h1⟩
def vj(h:G1 d l){i j:Nat}(hi:i<l.length)(hj:j<l.length)(hn:5000<=n):∃b,SF n l i j=some b:=by obtain⟨x,hx,g8⟩:=fP hi;obtain⟨y,hy,E6⟩:=fP hj;obtain⟨a,a1,a2,_⟩:=h.cod x g8;obtain⟨b,b1,b2,_⟩:=h.cod y E6;simp only[SF,cP,hx,hy,aM,a1,b1,J_ b2 a2 (show 5<=n by omega)];exact⟨_,rfl⟩
def qjp(h:xX d)(hl:G1 d l)(hv:∀x∈d,∀f∈x.Feats,kW d f.Value){t:Nat}(ht:t<l.length)(s:Str)(hn:5000<=n):∃w b,Jl n d l t s=some (bt w,b)/\w<4096:=by
 have hd:=h.len;have rL:=hl.len;obtain⟨x0,qK,hxm0⟩:=fP (l:=l) rL.2;obtain⟨w0,a1,a2,_⟩:=hl.cod x0 hxm0;have:=iL (l:=d) qq0 (F:=fun m z (s':PE×Nat)=>SM d l t s n m s'.1 (bt s'.2) z) (fun _ s'=>s'.2<4096) (Q:=fun r=>∃w b,r=(bt w,b)/\w<4096)
  (fun m i x s' hx aE bH hw hI ih=>by have g8:=zX hx;obtain⟨r,r1,r2⟩:=qwt (h.siz x g8).2 s hn;simp only[SM,bH,zC,cP,hx,aM,r1,hw];rcases hr:r.2 with _|_;simp only[Bool.not_false,zC,aM];exact ih s' hI;obtain⟨p,p1,p2⟩:=T_ (l:=l) qq0 x.Name hn;obtain⟨j,rfl,hj⟩:=p2 (hl.dcl _ ⟨x,g8,rfl⟩);obtain⟨b,b1⟩:=vj hl hj ht hn;simp only[Bool.not_true,zD,p1,aM,b1];rcases b with _|_;simp only[Bool.not_false,zC];exact ih s' hI;obtain⟨f,hf,_,e2⟩:=r2 hr;obtain⟨q,q1,q2⟩:=T_ (l:=l) qq0 r.1 hn;obtain⟨k,rfl,hk⟩:=q2 (hl.dcl _ (e2 ▸ hv x g8 f hf));obtain⟨y,hy,E6⟩:=fP hk;obtain⟨v,v1,v2,_⟩:=hl.cod y E6;simp only[Bool.not_true,zD,q1,aM,cP,hy,v1,z6w hI v2 (show 5<=n by omega)];exact ih (true,s'.2&&&v) (Nat.lt_of_le_of_lt Nat.and_le_left hI))
  (fun m s' bH hI=>by simp only[SM,bH,zD,sw];exact⟨_,rfl,s'.2,s'.1,rfl,hI⟩) n 0 (false,w0) qq0 qq0 a2
 rw[zV]at this;obtain⟨r,h1,w,b,rfl,h2⟩:=this;have h0:aB l 0=some x0:=by rw[<-qK];exact cP 0
 exact⟨w,b,by simp only[Jl,h0,aM,a1];exact h1,h2⟩
structure KC(d:X bG)(n:Nat)(l:X dN)(f:X Str):Prop where
 dok:xX d
 cod:NU n d=some (l,0)
 cok:G1 d l
 fea:YR n d=some f
 asc:eX f
 len:f.length<=64
 val:∀x∈d,EO d n x
 mem:∀s∈f,∃x∈d,∃y∈x.Feats,y.Feat=s
def qqd(hd:d.length<=12)(hn:5000<=n):∃e,S9 n d=some e/\(e=0->∃l f,KC d n l f):=by
 obtain⟨l,e,c1,c2⟩:=z4o hd hn;simp only[S9,c1,aM];by_cases he:e=0;subst he;obtain⟨h,hl⟩:=c2 rfl;have rL:=hl.len;obtain⟨f,f1,f2,f3,f4⟩:=z4w hd (fun x hx=>(h.siz x hx).2) hn;simp only[bne_self_eq_false,zD,f1,aM];by_cases vQ:(f.length:Int)>64;simp only[vQ,yC,zC];exact⟨7,rfl,fun h=>by cases h⟩;obtain⟨e2,d1,d2⟩:=ql1 h hn;simp only[vQ,yB,zD,d1,aM];by_cases he2:e2=0;subst he2;have hv:=d2 rfl;have IE:KC d n l f:=⟨h,c1,hl,f1,f2,by omega,hv,f4⟩;simp only[bne_self_eq_false,zD];have:=iL (l:=f) qq0 (F:=fun m z (_:Unit)=>Z5 d n (l,0) f m z) (fun _ _=>True) (Q:=fun e=>e=0->∃l f,KC d n l f)
  (fun m i s _ hs aE bH hw _ ih=>by obtain⟨r,r1⟩:=qv9 h s hn;simp only[Z5,bH,zC,cP,hs,aM,r1,hw];rcases r.2 with _|_;exact⟨10,rfl,fun h=>by cases h⟩;exact ih () trivial)
  (fun m _ bH _=>by
   simp only[Z5,bH,zD,mj];have:=iL (l:=l) qq0 (F:=fun m z (_:Unit)=>LB d n (l,0) f m z) (fun _ _=>True) (Q:=fun e=>e=0->∃l f,KC d n l f)
    (fun m t _ _ _ rK dL mF _ kO=>by
     simp only[LB,dL,zC];have:=iL (l:=f) qq0 (F:=fun m' z (_:Unit)=>Z4 d n (l,0) f t (LB d n (l,0) f m) m' z) (fun _ _=>True) (Q:=fun e=>e=0->∃l f,KC d n l f)
      (fun m' i s _ hs hlt3 Kw Kf _ pu=>by
       obtain⟨w,b,i1,_⟩:=qjp h hl (fun x hx y hy=>(hv x hx y hy).2) rK s hn;simp only[Z4,Kw,zC,cP,hs,aM,i1,Kf];rcases b with _|_;exact pu () trivial;simp only[zC,aM];cases (((bt w).length:Int)==0)with
       |true=>exact⟨11,rfl,fun h=>by cases h⟩|false=>exact pu () trivial)
      (fun m' _ Kw _=>by simp only[Z4,Kw,zD,mg,mF];exact kO () trivial) n 0 () qq0 qq0 trivial
     rw[zV]at this;exact this)
    (fun m _ dL _=>by simp only[LB,dL,zD,mh];exact⟨0,rfl,fun _=>⟨l,f,IE⟩⟩) n 0 () qq0 qq0 trivial
   rw[zV]at this;exact this) n 0 () qq0 qq0 trivial
 rw[zV]at this;exact this;have:(e2 != 0)=true:=by simpa using he2
 simp only[this,zC];exact⟨e2,rfl,fun h=>absurd h he2⟩;have:(e != 0)=true:=by simpa using he
 simp only[this,zC];exact⟨e,rfl,fun h=>absurd h he⟩
def z4y(hl:G1 d l){w:Nat}(hn:5000<=n):∃r,Qa n l (bt w)=some r:=by
 have rL:=hl.len;have:=iL (l:=l) qq0 (F:=fun m z (_:Unit)=>YY l n (bt w) m z) (fun _ _=>True) (Q:=fun _=>True)
  (fun m i x _ hx aE bH hw _ ih=>by
   obtain⟨a,a1,_⟩:=hl.cod x (zX hx);simp only[YY,bH,zC,cP,hx,aM,a1,e_ (a:=a) (b:=w) (n:=n) qq0,hw];cases decide (a=w)with
   |true=>exact⟨_,rfl,trivial⟩|false=>exact ih () trivial)
  (fun m _ bH _=>by simp only[YY,bH,zD,yy];exact⟨_,rfl,trivial⟩) n 0 () qq0 qq0 trivial
 rw[zV]at this;obtain⟨r,h1,_⟩:=this;exact⟨r,by simp only[Qa,z9u (w:=w) (n:=n) qq0,aM];exact h1⟩
def z3e(hd:d.length<=12)(hn:5000<=n):∃v e,In n d=some (v,e)/\(e=0->∃l f,KC d n l f/\v.length=l.length):=by
 obtain⟨e,c1,c2⟩:=qqd hd hn;simp only[In,c1,aM];by_cases he:e=0;subst he;obtain⟨l,f,h⟩:=c2 rfl;have rL:=h.cok.len;have CT:=h.len;simp only[bne_self_eq_false,zD,h.cod,h.fea,aM];have:=iL (l:=l) qq0 (F:=fun m z s=>HD d n (l,0) f m z s) (fun i s=>s.length=i) (Q:=fun r=>r.2=0->∃l f,KC d n l f/\r.1.length=l.length)
  (fun m t _ s _ aE bH hw hI ih=>by
   simp only[HD,bH,zC];have:=iL (l:=f) qq0 (F:=fun m' z s'=>OE d n (l,0) f t s (HD d n (l,0) f m) m' z s') (fun i s'=>s'.length<=i) (Q:=fun r=>r.2=0->∃l f,KC d n l f/\r.1.length=l.length)
    (fun m' i x s' hx rK dL mF iV kO=>by
     obtain⟨w,b,i1,_⟩:=qjp h.dok h.cok (fun x hx y hy=>(h.val x hx y hy).2) aE x hn;simp only[OE,dL,zC,cP,hx,aM,i1,Sd,mF];cases b with
     |true=>obtain⟨r,r1⟩:=z4y h.cok (w:=w) hn;simp only[zC,r1,aM];rw[fW qq0];exact kO _ (by simp;omega)
     |false=>exact kO s' qq0)
    (fun m' s' dL iV=>by simp only[OE,dL,zD,uu,hw];rw[fW qq0];exact ih _ (by simp;omega)) n 0 [] qq0 qq0 qq4
   rw[zV]at this;exact this)
  (fun m s bH hI=>by simp only[HD,bH,zD,ux];exact⟨_,rfl,fun _=>⟨l,f,h,hI⟩⟩) n 0 [] qq0 qq0 qq4
 rw[zV]at this;obtain⟨r,h1,h2⟩:=this;exact⟨r.1,r.2,h1,h2⟩;have:(e != 0)=true:=by simpa using he
 simp only[this,zC];exact⟨[],e,rfl,fun h=>absurd h he⟩
def qy5(h:G1 d l){t:Nat}(ht:t<l.length)(hn:5000<=n):∃r,yf n l t=some r:=by
 have rL:=h.len;have:=iL (l:=l) qq0 (F:=fun m z s=>DT l t n m z s) (fun i s=>s.length<=i) (Q:=fun _=>True)
  (fun m k _ s _ aE bH hw hI ih=>by
   obtain⟨b,b1⟩:=vj h aE ht hn;simp only[DT,bH,zC,b1,aM,hw];have go:∃r,SJ l t n k s (DT l t n m) n true 0=some r/\True:=by
    have:=iL (l:=l) qq0 (F:=fun m' z b=>SJ l t n k s (DT l t n m) m' b z) (fun _ _=>True) (Q:=fun _=>True)
     (fun m' i _ b _ rK dL mF _ kO=>by
      obtain⟨b1,g1⟩:=vj h aE rK hn;obtain⟨b2,g2⟩:=vj h rK ht hn;simp only[SJ,dL,zC,mF,g1,g2,aM];rcases b with _|_;exact kO false trivial;cases ((i:Int)==(t:Int))with
      |true=>exact kO true trivial|false=>cases ((i:Int)==(k:Int))with|true=>exact kO true trivial|false=>rcases b1 with _|_;exact kO true trivial;exact kO _ trivial)
     (fun m' b dL _=>by
      simp only[SJ,dL,zD,uy,Si,hw];cases b with
      |true=>simp only[zC];rw[fW qq0];exact ih _ (by simp;omega)|false=>exact ih s qq0) n 0 true qq0 qq0 trivial
    rw[zV]at this;exact this
   cases ((k:Int)==(t:Int))with|true=>simp only[zC,aM];exact ih s qq0|false=>simp only[zD,aM];rcases b with _|_;simp only[Bool.not_false,zC];exact ih s qq0;simp only[Bool.not_true,zD];exact go)
  (fun m s bH hI=>by simp only[DT,bH,zD,uz];exact⟨_,rfl,trivial⟩) n 0 [] qq0 qq0 qq4
 rw[zV]at this;obtain⟨r,h1,_⟩:=this;exact⟨r,h1⟩
def qss(hn:5000<=n){f:X Str}(h:KC d n l f)(hc:S9 n d=some 0):∃r,Rv n d=some (r,0)/\r.map wK.Name=f:=by
 have rL:=h.cok.len;have CT:=h.len;have:=iL (l:=f) qq0 (F:=fun m z s=>ZI d n (l,0) f m z s) (fun i s=>s.map wK.Name=f.take i) (Q:=fun r=>r.2=0/\r.1.map wK.Name=f)
  (fun m i x s hx aE bH hw hI ih=>by
   obtain⟨r,r1⟩:=qv9 h.dok x hn;obtain⟨q,q1,_⟩:=T_ (l:=l) qq0 r.1 hn;have I5:s.length=i:=by have:=congrArg List.length hI;simp at this;omega
   simp only[ZI,bH,zC,cP,hx,aM,r1,q1,hw];rw[fW qq0];exact ih _ (by rw[List.map_append,hI,jG hx];rfl))
  (fun m s bH hI=>by rw[zW (zF _)]at hI;simp only[ZI,bH,zD,ss];exact⟨_,rfl,rfl,hI⟩) n 0 [] qq0 qq0 qq4
 rw[zV]at this;obtain⟨r,h1,h2,h3⟩:=this;refine⟨r.1,?_,h3⟩;simp only[Rv,hc,aM,bne_self_eq_false,zD,h.cod,h.fea,h1];rw[<-h2]
structure ef(d:X bG)(n:Nat)(h:cZ):Prop where
 ex:∃l f,KC d n l f/\h.Types.map oO.Code=l.map dN.Code/\h.Feats.map wK.Name=f
def qxa(hd:d.length<=12)(hn:5000<=n):∃h e,O1 n d=some (h,e)/\(e=0->ef d n h)/\(e≠0->h=⟨[],[]⟩):=by
 obtain⟨v,e,v1,v2⟩:=z3e hd hn;simp only[O1,v1,aM];by_cases he:e=0;subst he;obtain⟨l,f,h,hv⟩:=v2 rfl;have rL:=h.cok.len;have hc:S9 n d=some 0:=by
  obtain⟨e,c1,c2⟩:=qqd hd hn;by_cases h0:e=0;rw[c1,h0];have:(e != 0)=true:=by simpa using h0
  simp only[In,c1,aM,this,zC,zA,zB]at v1;exact absurd v1.2 h0
 obtain⟨fs,g1,g2⟩:=qss hn h hc;simp only[bne_self_eq_false,zD,h.cod,aM];have:=iL (l:=l) qq0 (F:=fun m z s=>ZG d n (v,0) (l,0) m z s) (fun i s=>s.map oO.Code=(l.take i).map dN.Code) (Q:=fun r=>r.2=0/\ef d n r.1)
  (fun m i x s hx aE bH hw hI ih=>by
   obtain⟨r,r1⟩:=qy5 h.cok aE hn;obtain⟨y,hy,_⟩:=fP (l:=v) (show i<v.length by omega);have I5:s.length=i:=by have:=congrArg List.length hI;simp at this;omega
   simp only[ZG,bH,zC,cP,hx,hy,aM,r1,hw];rw[fW qq0];exact ih _ (by rw[List.map_append,hI,jG hx,List.map_append];rfl))
  (fun m s bH hI=>by rw[zW (zF _)]at hI;simp only[ZG,bH,zD,si,g1,aM];exact⟨_,rfl,rfl,⟨l,f,h,hI,g2⟩⟩) n 0 [] qq0 qq0 qq4
 rw[zV]at this;obtain⟨r,h1,h2,h3⟩:=this;exact⟨r.1,r.2,h1,fun _=>h3,fun h=>absurd h2 h⟩;have:(e != 0)=true:=by simpa using he
 simp only[this,zC];exact⟨_,e,rfl,fun h=>absurd h he,fun _=>rfl⟩
end Go.Proofs
namespace Go.Proofs
open Go Go.Rx Go.Vx
set_option maxRecDepth 10000
structure nT(h:cZ)(ws:X Nat):Prop where
 cod:h.Types.map oO.Code=ws.map bt
 ok:∀w∈ws,w≠0/\w<4611686018427387904
 nod:ws.Nodup
 cls:Q5 ws
 len:ws.length<=1000
 pos:0<ws.length
 fl:h.Feats.length<=1000
 top:∀w∈ws,(ws[0]?).getD 0&&&w=w
variable{h:cZ}
variable{ws:X Nat}
def nT.tl(hh:nT h ws):h.Types.length=ws.length:=by have:=congrArg List.length hh.cod;simpa using this
def nT.at{h:cZ}{ws:X Nat}(hh:nT h ws){i:Nat}{w:Nat}(hi:ws[i]? = some w):∃t,h.Types[i]? = some t/\t.Code=bt w:=by
 have h1:(h.Types.map oO.Code)[i]? = some (bt w):=by rw[hh.cod,List.getElem?_map,hi];rfl
 rw[List.getElem?_map]at h1;rcases e:h.Types[i]? with _|t;rw[e]at h1;cases h1;rw[e]at h1;exact⟨t,rfl,Option.some.inj h1⟩
variable{n:Nat}
def z4b(w:Nat)(hn:5<=n):vt n [(w:Int)]=some (bt w):=by
 obtain⟨k,rfl⟩:=Nat.exists_eq_add_of_le' hn;have e0:IntKind.i64.wrap ((1:Int)-1)=0:=wr (z:=0) qq0 qq0;have e1:aB [(w:Int)] 0=some (w:Int):=rfl;have c0:w7 [(w:Int)] 0 0=some []:=rfl;have c1:w7 [(w:Int)] 0 1=some [(w:Int)]:=rfl;have e2:decide ((1:Int)>0)=true:=rfl;have e3:decide ((0:Int)>0)=false:=rfl;show ZD [(w:Int)] (k+5) 1=_;rw[ZD,e2,zC,e0,e1,aM,aM];by_cases hw:w=0;have:((w:Int)==0)=true:=by simp[hw]
 rw[this,zC,ZD,e3,zD,aM,zD,Sc,c0,hw];rfl;have:((w:Int)==0)=false:=by simp[hw]
 rw[this,zD,Sc,c1,qW hw];rfl
variable{a:Nat}
variable{b:Nat}
def z8s(ha:a≠0/\a<4611686018427387904)(hb:b≠0/\b<4611686018427387904)(hn:5<=n):Pm n (bt a) (bt b)=some (bt (a&&&b)):=by obtain⟨k,rfl⟩:=Nat.exists_eq_add_of_le' hn;have h1:=Q2 (a:=a) (b:=b) qq0 qq0;have h2:=z4b (a&&&b) (n:=k+5) qq0;rw[qW ha.1,qW hb.1];have e:Pm (k+5) [(a:Int)] [(b:Int)]=Qu [(a:Int)] [(b:Int)] (k+5) [K5 .u64 (a:Int) (b:Int)]:=rfl;rw[e,h1,Qu,h2];rfl
def qyu(ha:a≠0/\a<4611686018427387904)(hb:b≠0/\b<4611686018427387904)(hn:5<=n):Il n (bt a) (bt b)=some (decide (a&&&b=a)):=by
 obtain⟨k,rfl⟩:=Nat.exists_eq_add_of_le' hn;obtain⟨c,h1,h2⟩:=Tq (a:=a) (b:=b) qq0 qq0;rw[qW ha.1,qW hb.1];have e:Il (k+5) [(a:Int)] [(b:Int)]=cond ((v06 .u64 (a:Int) (b:Int)) != 0) (some false) (some true):=rfl;rw[e,h1];by_cases hc:c=0;have:=h2.1 hc;simp[hc,this];have:¬ a&&&b=a:=fun q=>hc (h2.2 q);have h3:((c:Int) != 0)=true:=by simpa using hc
 simp[this,h3]
def Ew(ha:a≠0/\a<4611686018427387904)(hb:b≠0/\b<4611686018427387904)(hn:5<=n):Qf n (bt a) (bt b)=some (decide (a=b)):=by
 rw[Qf,qyu ha hb hn,qyu hb ha hn];by_cases h:a&&&b=a;by_cases h':b&&&a=b;have:a=b:=by rw[<-h,Nat.and_comm,h']
 simp[h,h',this,aM];have:a≠b:=fun e=>h' (by rw[<-e,Nat.and_self]);simp[h,h',this,aM];have:a≠b:=fun e=>h (by rw[<-e,Nat.and_self]);simp[h,this,aM]
def z7n{h:cZ}{ws:X Nat}(hh:nT h ws){c:Nat}(hc:c∈ws){n:Nat}(hn:5<=n):∀(m i:Nat),ws.length-i<m->i<=ws.length->(∀(k:Nat),k<i->ws[k]? ≠some c)->∃k:Nat,Jt h.Types (bt c) (Ik n) m (i:Int)=some (k:Int)/\ws[k]? = some c
 |0,i,hm,_,_=>by omega
 |m+1,i,hm,hi,eT=>by
  have hl:=hh.tl;have hln:=hh.len;obtain⟨q,hq⟩:=List.mem_iff_getElem?.1 hc;have FM:=(zG.1 hq).1;have aE:i<ws.length:=by rcases Nat.lt_or_ge q i with h1 |h1;exact absurd hq (eT q h1);omega
  obtain⟨w,hw,yU⟩:=fP aE;obtain⟨t,ht,he⟩:=hh.at hw;have h1:=Ew (hh.ok w yU) (hh.ok c hc) hn;simp only[Jt,hl,jB aE,zC,cP,ht,aM,Ik,he,h1];by_cases e:w=c;simp only[e,yC,zC];exact⟨i,rfl,by rw[hw,e]⟩;simp only[e,yB,zD,kX aE (show ws.length<=9223372036854775807 by omega)];exact z7n hh hc hn m (i+1) qq0 qq0 (fun k hk=>by by_cases e2:k=i;subst e2;rw[hw];intro q;exact e (Option.some.inj q);exact eT k qq0)
def z9q(hh:nT h ws){i j:Nat}(hi:ws[i]? = some a)(hj:ws[j]? = some b)(hn:2000<=n):
  (a&&&b=0->L4 n h (i:Int) (j:Int)=some (0,false))/\(a&&&b≠0->∃k:Nat,L4 n h (i:Int) (j:Int)=some ((k:Int),true)/\ws[k]? = some (a&&&b)):=by
 obtain⟨t,ht,he⟩:=hh.at hi;obtain⟨t',B7,zE⟩:=hh.at hj;have BL:=zX hi;have bk:=zX hj;have h1:=z8s (hh.ok a BL) (hh.ok b bk) (n:=n) qq0;simp only[L4,cP,ht,B7,aM,he,zE,h1];constructor;intro h0;rw[h0];rfl;intro h0;have h2:=hh.cls a BL b bk h0;obtain⟨k,h3,h4⟩:=z7n hh h2 (n:=n) qq0 n 0 (by have:=hh.len;omega) qq0 (fun k hk=>qq0);rw[zV]at h3;have e1:(((bt (a&&&b)).length:Int)==0)=false:=by rw[qW h0];rfl
 have e2:decide ((k:Int)<0)=false:=by simp
 simp only[e1,zD,pd,h3,aM,e2];exact⟨k,rfl,h4⟩
def eP(ws:X Nat)(t:Int):Nat:=(ws[t.toNat]?).getD 0
def FC{t:Int}(h:0<=t/\t<(ws.length:Int)):ws[t.toNat]? = some (eP ws t):=by
 have:t.toNat<ws.length:=by omega
 rw[eP,List.getElem?_eq_getElem this];rfl
def Ts(hh:nT h ws){s t:Int}(hs:0<=s/\s<(ws.length:Int))(ht:0<=t/\t<(ws.length:Int))(hn:2000<=n):
  ∃r,L4 n h s t=some r/\(r.2=false->eP ws s&&&eP ws t=0)/\(r.2=true->(0<=r.1/\r.1<(ws.length:Int))/\eP ws r.1=eP ws s&&&eP ws t):=by obtain⟨h1,h2⟩:=z9q hh (FC hs) (FC ht) hn;rw[show((s.toNat:Nat):Int)=s by omega,show((t.toNat:Nat):Int)=t by omega]at h1 h2;by_cases e:eP ws s&&&eP ws t=0;exact⟨_,h1 e,fun _=>e,fun q=>by cases q⟩;obtain⟨k,h3,h4⟩:=h2 e;refine⟨_,h3,(fun q=>by cases q),fun _=>⟨?_,?_⟩⟩;have:=(zG.1 h4).1;constructor;exact Int.natCast_nonneg _;show(k:Int)<_;omega;show eP ws (k:Int)=_;rw[eP,zZ,h4];rfl
def bQ(c:X Gcell)(i:Nat):Gcell:=(c[i]?).getD ⟨-1,0,[]⟩
def pn(n:Nat)(h:cZ)(s t:Int):V Int:=match L4 n h s t with
 |some (r,true)=>some r|_=>none
def xi(N:Nat)(p:Int×Int):Prop:=(0<=p.1/\p.1<(N:Int))/\(0<=p.2/\p.2<(N:Int))
def ZX{h:cZ}{ws:X Nat}(hh:nT h ws){s t:Int}(hs:0<=s/\s<(ws.length:Int))(ht:0<=t/\t<(ws.length:Int)){n:Nat}(hn:2000<=n):
  (pn n h s t=none/\(∃r,L4 n h s t=some r/\r.2=false)/\eP ws s&&&eP ws t=0)\/(∃r,pn n h s t=some r/\L4 n h s t=some (r,true)/\(0<=r/\r<(ws.length:Int))/\eP ws r=eP ws s&&&eP ws t):=by obtain⟨⟨r,b⟩,h1,h2,h3⟩:=Ts hh hs ht hn;rcases b with _|_;exact .inl ⟨by rw[pn,h1],⟨_,h1,rfl⟩,h2 rfl⟩;exact .inr ⟨r,by rw[pn,h1],h1,(h3 rfl).1,(h3 rfl).2⟩
structure KB(h:cZ)(f:GFS):Prop where
 sm:dI f 12
 ne:0<f.Nodes.length
 nok:∀x∈f.Nodes,(0<=x.Typex/\x.Typex<(h.Types.length:Int))/\Fi f.Nodes.length (h.Feats.length:Int) x.Arcs
 can:cO f 0=f
 gok:kT f
def z74{h:cZ}{z:Int}{rc:Int->V Int}{x:aO}{Q:Prop}(hx:x.Arcs.length<=12)(hr:∃r,rc (IntKind.i64.wrap (z+1))=some r/\(r=0->Q)):∀(m k:Nat),x.Arcs.length-k<m->k<=x.Arcs.length->∃r,Jd h z rc x m (k:Int)=some r/\(r=0->Q/\∀a∈x.Arcs.drop k,a.Feat<(h.Feats.length:Int))
 |0,k,hm,_=>by omega
 |m+1,k,hm,hk=>by unfold Jd;by_cases aE:k<x.Arcs.length;obtain⟨a,ha,_⟩:=fP aE;simp only[jB aE,zC,cP,ha,aM,kX aE (show x.Arcs.length<=9223372036854775807 by omega)];by_cases hf:a.Feat>=(h.Feats.length:Int);simp only[hf,yC,zC];exact⟨_,rfl,fun q=>by cases q⟩;simp only[hf,yB,zD];obtain⟨r,r1,r2⟩:=z74 hx hr m (k+1) qq0 qq0;refine⟨r,r1,fun q=>⟨(r2 q).1,fun b hb=>?_⟩⟩;rw[aX ha]at hb;rcases zI.1 hb with rfl |hb;omega;exact(r2 q).2 b hb;simp only[jV aE,zD,lu,bW aE];obtain⟨r,r1,r2⟩:=hr;exact⟨r,r1,fun q=>⟨r2 q,fun a ha=>by cases ha⟩⟩
def z73{h:cZ}{f:GFS}{n:Nat}{r3:GFS×Int}{Q:Prop}(hs:dI f 12)(hn:12<n)(hk:∃r,Je f n r3=some r/\(r=0->Q)):∀(m i:Nat),f.Nodes.length-i<m->i<=f.Nodes.length->∃r,SE h f n r3 m (i:Int)=some r/\(r=0->Q/\∀x∈f.Nodes.drop i,x.Typex<(h.Types.length:Int)/\∀a∈x.Arcs,a.Feat<(h.Feats.length:Int))
 |0,i,hm,_=>by omega
 |m+1,i,hm,hi=>by have yZ:=hs.nodes;unfold SE;by_cases aE:i<f.Nodes.length;obtain⟨x,hx,g8⟩:=fP aE;have LU:=hs.arcs x g8;simp only[jB aE,zC,cP,hx,aM];by_cases ht:x.Typex>=(h.Types.length:Int);simp only[ht,yC,zC];exact⟨_,rfl,fun q=>by cases q⟩;simp only[ht,yB,zD];have ih:=z73 (h:=h) hs hn hk m (i+1) qq0 qq0;rw[<-kX aE (show f.Nodes.length<=9223372036854775807 by omega)]at ih;obtain⟨r,r1,r2⟩:=z74 (h:=h) (z:=(i:Int)) (x:=x) LU ih n 0 qq0 qq0;rw[zV]at r1;refine⟨r,r1,fun q=>?_⟩;obtain⟨⟨q1,q2⟩,q3⟩:=r2 q;refine⟨q1,fun y hy=>?_⟩;rw[aX hx]at hy;rcases zI.1 hy with rfl |hy;exact⟨by omega,by rw[List.drop_zero]at q3;exact q3⟩;exact q2 y hy;simp only[jV aE,zD,bW aE];obtain⟨r,r1,r2⟩:=hk;exact⟨r,r1,fun q=>⟨r2 q,fun a ha=>by cases ha⟩⟩
def Ek{f:GFS}(hs:dI f 12)(h:cZ){n:Nat}(hn:3000000<=n):∃r,If n h f=some r/\(r=0->KB h f):=by
 have h2:=qtu hs qq0 (n:=n) (show 2*12+4<=n by omega);by_cases e:GQ f=0;rw[if_pos e]at h2;obtain⟨g1,g2,g3⟩:=qqm.1 e;have jA:gS f 0:=⟨by omega,by omega⟩;have I4:=hs.canon g3 (r:=0) jA;have q2:=g_ (f:=f) (g:=⟨(cO f 0).Nodes⟩) (n:=n) (hs.up qq0) (I4.up qq0) hn;have hk:∃r,Je f n (cO f 0,0)=some r/\(r=0->f=cO f 0):=by simp only[Je,q2,aM];cases hb:(Eo f ⟨(cO f 0).Nodes⟩==0);exact⟨_,rfl,fun q=>by cases q⟩;exact⟨_,rfl,fun _=>A_.1 (by simpa using hb)⟩
 obtain⟨r,r1,r2⟩:=z73 (h:=h) hs qq0 hk n 0 (by have:=hs.nodes;omega) qq0;rw[zV]at r1;refine⟨r,by simp only[If,h2,aM];exact r1,fun q=>?_⟩;obtain⟨q1,q3⟩:=r2 q;rw[List.drop_zero]at q3;have hc:=Hf g3 jA;refine⟨hs,by omega,fun x hx=>⟨⟨(g3 x hx).ty,(q3 x hx).1⟩,?_,fun a ha=>?_⟩,q1.symm,g3⟩;exact hc.up x (q1 ▸ hx);have:=(g3 x hx).arc a ha;exact⟨this.1,(q3 x hx).2 a ha,this.2⟩;rw[if_neg e]at h2;have e':(GQ f != 0)=true:=by simp[e]
 exact⟨GQ f,by simp only[If,h2,aM,e',zC],fun q=>absurd q e⟩
def z7h{h:cZ}{l:X GFS}(hl:l.length<=1000000){n:Nat}(hn:3000000<=n):∀(m i:Nat),l.length-i<m->i<=l.length->∃b,Iz h l n m (i:Int)=some b/\(b=true->∀f∈l.drop i,KB h f)
 |0,i,hm,_=>by omega
 |m+1,i,hm,hi=>by
  unfold Iz;by_cases aE:i<l.length;obtain⟨f,hf,_⟩:=fP aE;obtain⟨b,b1,b2⟩:=z5b f (n:=n) qq0;simp only[jB aE,zC,cP,hf,aM,b1,kX aE (show l.length<=9223372036854775807 by omega)];rcases b with _|_;simp only[Bool.not_false,zC,aM];exact⟨false,rfl,fun q=>by cases q⟩;obtain⟨r,r1,r2⟩:=Ek (b2 rfl) h hn;simp only[Bool.not_true,zD,r1,aM];cases hr:(r != 0)with
  |true=>simp only[zC];exact⟨false,rfl,fun q=>by cases q⟩|false=>simp only[zD];obtain⟨b,g1,g2⟩:=z7h hl hn m (i+1) qq0 qq0;refine⟨b,g1,fun q g hg=>?_⟩;rw[aX hf]at hg;rcases zI.1 hg with rfl |hg;exact r2 (by simpa using hr);exact g2 q g hg
  simp only[jV aE,zD,ll,bW aE];exact⟨true,rfl,fun _ f hf=>by cases hf⟩
def z9d(h:cZ){l:X GFS}(hl:l.length<=1000000){n:Nat}(hn:3000000<=n):∃b,vi n h l=some b/\(b=true->∀f∈l,KB h f):=by obtain⟨b,h1,h2⟩:=z7h (h:=h) hl hn n 0 qq0 qq0;rw[zV]at h1;exact⟨b,h1,h2⟩
def EX(k:Nat)(a:aR):aR:=⟨a.Feat,a.To+(k:Int)⟩
def da{a:aR}{k:Nat}(h:0<=a.To/\a.To<1000)(hk:k<=1000):IntKind.i64.wrap (a.To+(k:Int))=a.To+(k:Int):=wr qq0 qq0
def A9(a k:Nat):X Int:=(List.range k).map fun i=>((a+i:Nat):Int)
def z6b(a k:Nat):A9 a (k+1)=A9 a k++[((a+k:Nat):Int)]:=by simp[A9,List.range_succ]
def iy(a k:Nat):(A9 a k).length=k:=by simp[A9]
variable{n:Nat}
def N_{aH:Nat->Nat}{m i j:Nat}(h:aH i=aH j):fZ aH m n i=fZ aH m n j:=by unfold fZ;rw[h]
def Eu{a b:Nat}(PJ:b&&&a=a)(ha:a<4096)(hb:b<4096)(hl:(bl b).length<=(bl a).length):a=b:=by
 have hs:∀i,a.testBit i=true->b.testBit i=true:=fun i h=>by have:=congrArg (fun z=>z.testBit i) PJ;simp only[Nat.testBit_and,h,Bool.and_true]at this;exact this
 have e1:(List.range 64).filter (fun i=>a.testBit i)=((List.range 64).filter fun i=>b.testBit i).filter fun i=>a.testBit i:=by
  rw[List.filter_filter];refine List.filter_congr fun i _=>?_;rcases h:a.testBit i with _|_
  simp;simp[hs i h]
 simp only[bl,yA]at hl;rw[e1]at hl;have e2:((List.range 64).filter fun i=>b.testBit i).filter (fun i=>a.testBit i)=(List.range 64).filter fun i=>b.testBit i:=(List.filter_sublist).eq_of_length_le hl;refine Nat.eq_of_testBit_eq fun i=>?_;by_cases hi:i<64;cases xJ:b.testBit i with
 |false=>rcases hai:a.testBit i with _|_;rfl;rw[hs i hai]at xJ;cases xJ
 |true=>have:i∈(List.range 64).filter fun i=>b.testBit i:=List.mem_filter.2 ⟨List.mem_range.2 hi,xJ⟩;rw[<-e2]at this;exact(List.mem_filter.1 this).2
 rw[Nat.testBit_lt_two_pow (Nat.lt_of_lt_of_le ha (Nat.pow_le_pow_right (n:=2) qq0 (show 12<=i by omega))),Nat.testBit_lt_two_pow (Nat.lt_of_lt_of_le hb (Nat.pow_le_pow_right (n:=2) qq0 (show 12<=i by omega)))]
def ef.hr{d:X bG}{h:cZ}(hh:ef d n h):∃ws,nT h ws:=by
 obtain⟨l,f,h1,h2,h3⟩:=hh.ex;obtain⟨nm,c0,ws,g1,g2,g3,g4,g5⟩:=h1.cok.ws;have hc:=h1.cok.cod;have e1:(l.map fun x=>cw x.Code).map bt=l.map dN.Code:=by rw[List.map_map];apply List.map_congr_left;intro x hx;obtain⟨w,hw,_⟩:=hc x hx;simp[hw,H3]
 have e2:(l.map fun x=>cw x.Code).Perm ws:=by
  have:=g3.perm.map cw;rw[List.map_map,List.map_map]at this;have e3:ws.map (cw ∘ bt)=ws:=by have:(cw ∘ bt)=id:=funext fun w=>H3 w;rw[this,List.map_id]
  rw[e3]at this;exact this
 refine⟨l.map fun x=>cw x.Code,⟨by rw[h2,e1],fun w hw=>?_,e2.nodup_iff.2 g1.nod,fun a ha b hb cR=>?_,?_,?_,?_,?_⟩⟩;have:=g1.ok w (e2.mem_iff.1 hw);exact⟨this.2.1,by omega⟩;exact e2.mem_iff.2 (g2 a (e2.mem_iff.1 ha) b (e2.mem_iff.1 hb) cR);rw[e2.length_eq];omega;rw[e2.length_eq];omega;have:=congrArg List.length h3;rw[yA]at this;have:=h1.len;omega;intro w hw;obtain⟨y,hy,rfl⟩:=List.mem_map.1 hw;obtain⟨w0,⟨x0,qK,e0⟩,B6⟩:=h1.cok.top;have OP:=g3.srt;rcases hl:l with _|⟨z,l'⟩;rw[hl]at qK;cases qK;simp only[zQ,List.getElem?_cons_zero,Option.getD_some];have hzm:z∈l:=by rw[hl];simp
 obtain⟨wz,ez,lz,_⟩:=hc z hzm;obtain⟨w0',Eb,l0,_⟩:=hc x0 qK;have e00:w0=w0':=by rw[<-H3 w0,<-H3 w0',<-e0,<-Eb]
 have pU:cnt x0<=cnt z:=by rw[hl]at qK OP;rcases zI.1 qK with rfl |h;exact zF _;exact(List.pairwise_cons.1 OP).1 x0 h
 have hz:=B6 z hzm;rw[ez,H3]at hz;have:wz=w0:=Eu hz lz (by rw[e00];exact l0) (by
  have c1:cnt x0=(bl w0).length:=by rw[cnt,e0,H3]
  have c2:cnt z=(bl wz).length:=by rw[cnt,ez,H3]
  omega)
 rw[ez,H3,this];exact B6 y (by rw[hl]at hy;rw[hl];exact hy)
def wd(t:oO):Nat:=cw t.Code
def pj:X Nat->PE
 |[]=>true|x::l=>!(l.any fun y=>Nat.beq x y)&&pj l
def okB(h:cZ):PE :=
 (h.Types.all fun t=>match t.Code with |[z]=>decide (0<z)&&decide (z<4611686018427387904)|_=>false) &&
 pj (h.Types.map wd)&&((h.Types.map wd).all fun a=>(h.Types.map wd).all fun b=>Nat.beq (a&&&b) 0||(h.Types.map wd).any fun c=>Nat.beq (a&&&b) c) &&
 Nat.ble h.Types.length 1000&&Nat.ble 1 h.Types.length&&Nat.ble h.Feats.length 1000&&((h.Types.map wd).all fun w=>Nat.beq ((((h.Types.map wd)[0]?).getD 0)&&&w) w)
def z7w:∀{l:X Nat},pj l=true->l.Nodup
 |[],_=>List.nodup_nil|x::l,h=>by simp only[pj,Bool.and_eq_true,Bool.not_eq_true',List.any_eq_false]at h;refine List.nodup_cons.2 ⟨fun hx=>?_,z7w h.2⟩;have:=h.1 x hx;simp at this
def ZV{h:cZ}(hb:okB h=true):∃ws,nT h ws:=by
 simp only[okB,Bool.and_eq_true,List.all_eq_true,Nat.ble_eq]at hb;obtain⟨⟨⟨⟨⟨⟨h1,h2⟩,h3⟩,h4⟩,h5⟩,h6⟩,h7⟩:=hb;have Wy:∀t∈h.Types,t.Code=bt (wd t)/\wd t≠0/\wd t<4611686018427387904:=fun t ht=>by
  have:=h1 t ht;unfold wd;rcases hc:t.Code with _|⟨z,l⟩;rw[hc]at this;simp at this;cases l with
  |cons y l=>rw[hc]at this;simp at this|nil=>rw[hc]at this;simp at this;have e:cw [z]=z.toNat:=rfl;rw[e];exact⟨by rw[qW qq0];congr 1;omega,by omega,by omega⟩
 refine⟨h.Types.map wd,⟨?_,fun w hw=>?_,z7w h2,fun a ha b hb cR=>?_,by rw[yA];exact h4,by rw[yA];exact h5,h6,fun w hw=>by have:=h7 w hw;rw[Nat.beq_eq]at this;exact this⟩⟩;rw[List.map_map];exact List.map_congr_left fun t ht=>(Wy t ht).1;obtain⟨t,ht,rfl⟩:=List.mem_map.1 hw;exact(Wy t ht).2;have:=h3 a ha b hb;rw[Bool.or_eq_true,Nat.beq_eq]at this;rcases this with h |h
 exact absurd h cR;obtain⟨c,hc,e⟩:=List.any_eq_true.1 h;rw[Nat.beq_eq]at e;rw[e];exact hc
def preB(m:Nat):a8 (Rf (m+200)) (fun d=>a8 (O1 (m+200) d) fun r=>some (okB r.1))=some true:=qq1
def ZN(h:200<=n):∃g ws,Jq n=some g/\nT g ws:=by have:=preB (n-200);rw[show n-200+200=n by omega]at this;rcases e1:Rf n with _|d;rw[e1]at this;cases this;rw[e1,aM]at this;rcases e2:O1 n d with _|r;rw[e2]at this;cases this;rw[e2,aM]at this;obtain⟨ws,hw⟩:=ZV (Option.some.inj this);exact⟨⟨r.1.Types,r.1.Feats⟩,ws,by simp only[Jq,e1,e2,aM],hw⟩
def z9f(d:X bG)(hn:5000<=n):∃g ws,se n d=some g/\nT g ws:=by
 obtain⟨g,ws,p1,p2⟩:=ZN (n:=n) qq0;unfold se;by_cases hd:(d.length:Int)<=12;obtain⟨h,e,c1,c2,c3⟩:=qxa (d:=d) qq0 hn;simp only[hd,yC,zC,c1,aM];by_cases he:e=0;subst he;obtain⟨ws',hw⟩:=(c2 rfl).hr;exact⟨⟨h.Types,h.Feats⟩,ws',rfl,hw⟩;have:(e==0)=false:=by simpa using he
 simp only[this,zD];exact⟨g,ws,p1,p2⟩;simp only[hd,yB,zD];exact⟨g,ws,p1,p2⟩
def fE{v12:Type}{l:X v12}{i:Nat}(h:i<l.length):∃x,l[i]? = some x:=⟨l[i],List.getElem?_eq_getElem h⟩
variable{N:X PN}
def qqq{N':X PN}(c:CO N)(c':CO N')(e:Ex N.length N N'){r:Nat}(hr:r<N.length):cO (core N') (r:Int)=cO (core N) (r:Int):=by
 have hl:=e.len;have at_:∀v,gS (core N) v->∃(i:Nat)(x x':PN),v=(i:Int)/\N[i]? = some x/\N'[i]? = some x'/\x'.kind=x.kind/\x'.arcs=x.arcs:=fun v hv=>by have:=hv.2;rw[j7]at this;obtain⟨x,hx⟩:=fE (l:=N) (i:=v.toNat) (by have:=hv.1;omega);obtain⟨x',h1,h2,h3⟩:=e.st v.toNat x (by have:=hv.1;omega) hx;exact⟨v.toNat,x,x',by have:=hv.1;omega,hx,h1,h2,h3⟩
 have S:rZ (core N) (core N') id (gS (core N)):=by refine⟨fun v hv a ha=>?_,fun _ _ _ _ h=>h,fun v hv=>?_,fun v hv=>?_⟩;obtain⟨i,x,x',rfl,hx,vL,h1,h2⟩:=at_ v hv;rw[c.sar hx]at ha;obtain⟨b,hb,rfl⟩:=List.mem_map.1 ha;have:=c.to hx b hb;exact⟨by simp only[gA];omega,by rw[j7];simp only[gA];omega⟩;obtain⟨i,x,x',rfl,hx,vL,h1,h2⟩:=at_ v hv;simp only[id,FF hx,FF vL,cN,h1];obtain⟨i,x,x',rfl,hx,vL,h1,h2⟩:=at_ v hv;simp only[id,c.sar hx,c'.sar vL,h2];exact(List.map_id' _).symm
 have:=S.canon c.gok c'.gok (r:=(r:Int)) ⟨by omega,by rw[j7];omega⟩ ⟨by omega,by rw[j7];omega⟩ ⟨by simp only[id];omega,by rw[j7];simp only[id];omega⟩;exact this.2
def Tv(k:Nat)(a:aR):eC:=⟨a.Feat,k+a.To.toNat⟩
def mW(k:Nat)(x:aO):PN:=gO x.Typex (x.Arcs.map (Tv k))
def ol{v12 β:Type}{f:v12->V β}{g:v12->β}:∀{l:X v12},(∀a∈l,f a=some (g a))->DZ f l=some (l.map g)
 |[],_=>rfl|a::l,h=>by rw[DZ,h a qq4,aM,ol fun b hb=>h b (by simp[hb]),aM];rfl
def Tu(k:Nat){a:aR}(h:0<=a.To):gA (Tv k a)=EX k a:=by simp only[gA,Tv,EX,aR.mk.injEq,true_and];omega
variable{P:PP}
variable{f:GFS}
variable{k:Nat}
def z1b(hs:dI f k)(hk:k<=1000000)(h0:0<f.Nodes.length)(hg:kT f)(hr:P.roots.length<=1000000):
  yE P f=some ((P.roots.length:Int),{ P with N:=P.N++f.Nodes.map (mW P.N.length),size:=IntKind.i64.wrap (P.size+f.Nodes.length),roots:=P.roots++[P.N.length] }):=by have hn:=hs.nodes;rw[yE,aF,if_pos ⟨h0,by omega,hr⟩,ol (g:=mW P.N.length) fun x hx=>?_,aM];have:=hs.arcs x hx;rw[SQ,aF,if_pos qq0,ol (g:=Tv P.N.length) fun a ha=>?_,aM];rfl;have h1:=(hg x hx).arc a ha;rw[qx,decide_eq_true h1.2,zC];rfl
def jk{x:aO}(h:∀a∈x.Arcs,0<=a.To):(mW k x).arcs.map gA=x.Arcs.map (EX k):=by simp only[mW,gO,List.map_map];exact List.map_congr_left fun a ha=>Tu k (h a ha)
def GC{l:X aR}(h:lI l):lI (l.map (EX k)):=by unfold lI at*;rw[List.pairwise_map];exact h.imp fun{a b} q=>q
def ZL(c:CO N)(hs:dI f k)(hk:k<=1000000)(hg:kT f)(hu:∀x∈f.Nodes,lI x.Arcs)(hl:N.length+f.Nodes.length<=1000000):CO (N++f.Nodes.map (mW N.length)):=by
 have aQ:(core (N++f.Nodes.map (mW N.length))).Nodes.length=N.length+f.Nodes.length:=by simp[j7]
 have zm:∀x∈f.Nodes,∀a∈x.Arcs,0<=a.To:=fun x hx a ha=>((hg x hx).arc a ha).2.1;refine⟨fun y hy=>?_,fun x hx=>?_,by simp;exact hl,fun x hx=>?_⟩;rw[aQ];obtain⟨x,hx,rfl⟩:=List.mem_map.1 hy;rcases yD.1 hx with hx |hx
 have:=c.gok (cN x) (List.mem_map_of_mem hx);rw[j7]at this;exact⟨this.ty,this.dis,fun a ha=>by have:=this.arc a ha;omega⟩;obtain⟨z,hz,rfl⟩:=List.mem_map.1 hx;have h1:=hg z hz;simp only[cN,jk (zm z hz)];refine⟨h1.ty,(GC (hu z hz)).dis,fun a ha=>?_⟩;obtain⟨b,hb,rfl⟩:=List.mem_map.1 ha;have:=h1.arc b hb;simp only[EX];omega;rcases yD.1 hx with hx |hx;exact c.up x hx;obtain⟨z,hz,rfl⟩:=List.mem_map.1 hx;rw[jk (zm z hz)];exact GC (hu z hz);rcases yD.1 hx with hx |hx;exact c.sm x hx;obtain⟨z,hz,rfl⟩:=List.mem_map.1 hx;have:=hs.arcs z hz;simp only[mW,gO,yA];omega
def z1r(c':CO (N++f.Nodes.map (mW N.length)))(hg:kT f)(hu:∀x∈f.Nodes,lI x.Arcs){r:Nat}(hr:r<f.Nodes.length):cO (core (N++f.Nodes.map (mW N.length))) ((N.length+r:Nat):Int)=cO f (r:Int):=by
 have zm:∀x∈f.Nodes,∀a∈x.Arcs,0<=a.To:=fun x hx a ha=>((hg x hx).arc a ha).2.1;have aQ:(core (N++f.Nodes.map (mW N.length))).Nodes.length=N.length+f.Nodes.length:=by simp[j7]
 have at_:∀v,gS f v->∃(i:Nat)(x:aO),v=(i:Int)/\i<f.Nodes.length/\f.Nodes[i]? = some x/\nd f v=x/\(N++f.Nodes.map (mW N.length))[N.length+i]? = some (mW N.length x):=fun v hv=>by have h1:=hv.1;have h2:=hv.2;obtain⟨x,hx⟩:=fE (l:=f.Nodes) (i:=v.toNat) qq0;refine⟨v.toNat,x,by omega,by omega,hx,by simp[nd,hx],?_⟩;rw[List.getElem?_append_right qq0,Nat.add_sub_cancel_left,List.getElem?_map,hx];rfl
 have S:rZ f (core (N++f.Nodes.map (mW N.length))) (fun v=>v+(N.length:Int)) (gS f):=by refine⟨fun v hv a ha=>?_,fun _ _ _ _ h=>qq0,fun v hv=>?_,fun v hv=>?_⟩;obtain⟨i,x,rfl,hi,hx,e1,vL⟩:=at_ v hv;have ha:=tO.1 ha;rw[e1]at ha;have:=(hg x (zX hx)).arc a ha;exact⟨this.2.1,this.2.2⟩;obtain⟨i,x,rfl,hi,hx,e1,vL⟩:=at_ v hv;rw[show((i:Int)+(N.length:Int))=((N.length+i:Nat):Int) by omega,FF vL,e1];rfl;obtain⟨i,x,rfl,hi,hx,e1,vL⟩:=at_ v hv;rw[show((i:Int)+(N.length:Int))=((N.length+i:Nat):Int) by omega,c'.sar vL,jk (zm x (zX hx)),Go.Proofs.sar,e1,it (hu x (zX hx))];rfl
 have:=S.canon hg c'.gok (r:=(r:Int)) ⟨by omega,by omega⟩ ⟨by omega,by omega⟩ ⟨by omega,by rw[aQ];omega⟩;rw[show((N.length+r:Nat):Int)=(r:Int)+(N.length:Int) by omega];exact this.2
def z88(N:X PN)(f:GFS):Ex N.length N (N++f.Nodes.map (mW N.length)):=⟨by simp,fun i x hi hx=>⟨x,by rw[List.getElem?_append_left hi];exact hx,rfl,rfl⟩⟩
def KB.upA{h:cZ}(hf:KB h f):∀x∈f.Nodes,lI x.Arcs:=fun x hx=>(hf.nok x hx).2.up
structure Has(P:PP)(fs:X GFS):Prop where
 co:CO P.N
 len:P.roots.length=fs.length
 at_:∀(k:Nat)(f:GFS),fs[k]? = some f->∃r,P.roots[k]? = some r/\r<P.N.length/\cO (core P.N) (r:Int)=f
def Has.new(H:cZ):Has (uC H) []:=⟨⟨fun x hx=>by simp[core,uC]at hx,nofun,by simp[uC],nofun⟩,rfl,nofun⟩
def Has.put{fs:X GFS}(p:Has P fs){h:cZ}(hf:KB h f)(hl:P.N.length+f.Nodes.length<=1000000)(hr:P.roots.length<=1000000):
  ∃P',yE P f=some ((P.roots.length:Int),P')/\Has P' (fs++[f])/\P'.N.length=P.N.length+f.Nodes.length/\P'.H=P.H/\P'.gen=P.gen:=by
 have c':=ZL p.co hf.sm qq3 hf.gok hf.upA hl;refine⟨_,z1b hf.sm qq3 hf.ne hf.gok hr,⟨c',by simp[p.len],fun k g hg=>?_⟩,by simp,rfl,rfl⟩;by_cases hk:k<fs.length;rw[List.getElem?_append_left hk]at hg;obtain⟨r,h1,h2,h3⟩:=p.at_ k g hg;exact⟨r,by show(P.roots++_)[k]? = _;rw[List.getElem?_append_left (by rw[p.len];exact hk)];exact h1,by simp;omega,by rw[<-h3];exact qqq p.co c' (z88 _ _) h2⟩;have jS:k<(fs++[f]).length:=(zG.1 hg).1;simp at jS;have:k=fs.length:=by omega
 subst this;simp at hg;subst hg;refine⟨P.N.length,by show(P.roots++_)[_]? = _;rw[<-p.len];simp,by have:=hf.ne;simp;omega,?_⟩;have:=z1r c' hf.gok hf.upA (r:=0) hf.ne;rw[Nat.add_zero]at this;exact this.trans hf.can
variable{n:Nat}
def Has.read{fs:X GFS}(p:Has P fs)(hn:P.N.length<n)(h:fs[k]? = some f):AI n P (k:Int)=some (f,true):=by obtain⟨r,h1,h2,h3⟩:=p.at_ k f h;rw[z5v p.co hn (r:=r) qq0 (by rw[zZ];exact h1) h2,h3]
variable{a:Int}
variable{b:Int}
def qvz(h:¬ ((0<=a/\a<(P.roots.length:Int))/\0<=b/\b<(P.roots.length:Int))):F2 n P a b=some (none,P):=by rw[F2];by_cases h1:a<0;rw[decide_eq_true h1,zC];rw[decide_eq_false h1,zD];by_cases h2:b<0;rw[decide_eq_true h2,zC];rw[decide_eq_false h2,zD];by_cases h3:a>=(P.roots.length:Int);rw[decide_eq_true h3,zC];rw[decide_eq_false h3,zD,decide_eq_true qq0,zC]
def qxt(h:¬ ((0<=a/\a<(P.roots.length:Int))/\0<=b/\b<(P.roots.length:Int))):vA n P a b=some ((0,false),P):=by rw[vA,qvz h];rfl
def z1e(h:¬ ((0<=a/\a<(P.roots.length:Int))/\0<=b/\b<(P.roots.length:Int))):AH n P a b=some (false,P):=by rw[AH,qvz h];rfl
def VO(aH:Nat->Nat)(a:aR):aR:=⟨a.Feat,rI aH a.To⟩
def T0(aH:Nat->Nat)(c:Gcell):aO:=⟨c.kind,c.arcs.map (VO aH)⟩
def iq:∀{a b:X aR},lI a->lI b->(∀x,x∈a↔x∈b)->a=b
 |[],[],_,_,_=>rfl|[],y::b,_,_,h=>by have:=(h y).2 qq4;cases this
 |x::a,[],_,_,h=>by have:=(h x).1 qq4;cases this
 |x::a,y::b,ha,hb,h=>by
  have mG:=List.pairwise_cons.1 ha;have cK:=List.pairwise_cons.1 hb;have e:x=y:=by rcases zI.1 ((h x).1 qq4)with e |e;exact e;rcases zI.1 ((h y).2 qq4)with e' |e';exact e'.symm;have:=mG.1 y e';have:=cK.1 x e;omega
  subst e;rw[iq mG.2 cK.2 fun z=>⟨fun hz=>by
   rcases zI.1 ((h z).1 (List.mem_cons_of_mem _ hz))with e |e;subst e;have:=mG.1 z hz;omega;exact e,fun hz=>by
   rcases zI.1 ((h z).2 (List.mem_cons_of_mem _ hz))with e |e;subst e;have:=cK.1 z hz;omega;exact e⟩]
structure QG(ws:X Nat)(L:X aO)(r:Nat->Nat)(g:GFS):Prop where
 len:g.Nodes.length=L.length
 rt:∀i,i<L.length->r i<L.length/\r (r i)=r i
 kd:∀i x,g.Nodes[i]? = some x->r i=i->(0<=x.Typex/\x.Typex<(ws.length:Int))/\∀k,(eP ws x.Typex).testBit k=true↔∀j c,L[j]? = some c->r j=i->(eP ws c.Typex).testBit k=true
 ds:∀i x,g.Nodes[i]? = some x->r i=i->jC x.Arcs
 cov:∀j c a,L[j]? = some c->a∈c.Arcs->∃x b,g.Nodes[r j]? = some x/\b∈x.Arcs/\b.Feat=a.Feat/\b.To=(r a.To.toNat:Int)
 snd:∀i x b,g.Nodes[i]? = some x->r i=i->b∈x.Arcs->∃j c a,L[j]? = some c/\r j=i/\a∈c.Arcs/\b.Feat=a.Feat/\b.To=(r a.To.toNat:Int)
def z93{ws:X Nat}(hn:ws.Nodup){s t:Int}(hs:0<=s/\s<(ws.length:Int))(ht:0<=t/\t<(ws.length:Int))(h:eP ws s=eP ws t):s=t:=by have h1:=FC hs;have h2:=FC ht;rw[<-h]at h2;obtain⟨a1,b1⟩:=zG.1 h1;obtain⟨a2,b2⟩:=zG.1 h2;have:=(List.getElem_inj (h₀:=a1) (h₁:=a2) hn).1 (by rw[b1,b2]);omega
def Lnk(N:Nat)(r:Nat->Nat)(W:X (Int×Int))(x y:Nat):Prop:=∀q:Nat->Nat,(∀i j,i<N->j<N->r i=r j->q i=q j)->(∀p∈W,q p.1.toNat=q p.2.toNat)->q x=q y
structure A4(N:Nat)(ws:X Nat)(L:X aO):Prop where
 len:L.length=N
 ar:∀(j:Nat)(c:aO)(a:aR),L[j]? = some c->a∈c.Arcs->0<=a.To/\a.To<(N:Int)
structure TC(ws:X Nat)(N:Nat)(L:X aO)(W:X (Int×Int))(cells:X Gcell)(aH:Nat->Nat):Prop where
 cov:∀(j:Nat)(c:aO)(a:aR),L[j]? = some c->a∈c.Arcs->∃b∈(bQ cells (aH j)).arcs,b.Feat=a.Feat/\Lnk N aH W b.To.toNat a.To.toNat
 snd:∀(i:Nat)(b:aR),i<N->aH i=i->b∈(bQ cells i).arcs->∃(j:Nat)(c:aO),L[j]? = some c/\aH j=i/\b∈c.Arcs
 kd:∀(i:Nat),i<N->aH i=i->∀k:Nat,(eP ws (bQ cells i).kind).testBit k=true↔∀(j:Nat)(c:aO),L[j]? = some c->aH j=i->(eP ws c.Typex).testBit k=true
def o9(L:X aO)(q:Nat->Nat):Prop:=∀(i j:Nat)(c e:aO)(a b:aR),L[i]? = some c->L[j]? = some e->q i=q j->a∈c.Arcs->b∈e.Arcs->a.Feat=b.Feat->q a.To.toNat=q b.To.toNat
def VW(ws:X Nat)(L:X aO)(q:Nat->Nat):Prop:=∃i,i<L.length/\∀k:Nat,∃(j:Nat)(c:aO),L[j]? = some c/\q j=q i/\(eP ws c.Typex).testBit k=false
structure Q4(N:Nat)(W:X (Int×Int))(aH q:Nat->Nat):Prop where
 r:∀i j,i<N->j<N->aH i=aH j->q i=q j
 w:∀p∈W,q p.1.toNat=q p.2.toNat
variable{c:X Gcell}
variable{m:Nat}
variable{n:Nat}
def z_(hm:m<c.length)(hn:n<c.length)(LW:m≠n)(t:Int)(o:X aR)(i:Nat):
  bQ (MB c m n t o) i=if i=n then⟨(m:Int),0,[]⟩else if i=m then⟨-1,t,o⟩else bQ c i:=by simp only[bQ,MB,List.getElem?_set,List.length_set];by_cases e:i=n;subst e;simp[hn];rw[if_neg (fun q=>e q.symm),if_neg e];by_cases e2:i=m;subst e2;simp[hm];rw[if_neg (fun q=>e2 q.symm),if_neg e2]
variable{ws:X Nat}
variable{N:Nat}
variable{L:X aO}
variable{W:X (Int×Int)}
variable{p:Int×Int}
variable{aH:Nat->Nat}
def TC.skip(h:TC ws N L (p::W) c aH)(hp:xi N p)(e:aH p.1.toNat=aH p.2.toNat):TC ws N L W c aH where
 cov j x a hj ha:=by obtain⟨b,h1,h2,h3⟩:=h.cov j x a hj ha;refine⟨b,h1,h2,fun q q1 q2=>h3 q q1 fun z hz=>?_⟩;rcases zI.1 hz with rfl |hz;exact q1 _ _ (by have:=hp.1;omega) (by have:=hp.2;omega) e;exact q2 z hz
 snd:=h.snd
 kd:=h.kd
structure Mg(N:Nat)(p:Int×Int)(c:X Gcell)(aH:Nat->Nat)(m n:Nat):Prop where
 len:c.length=N
 hm:m<N
 hn:n<N
 em:aH m=m
 en:aH n=n
 ne:m≠n
 lt:∀i,i<N->aH i<N
 idem:∀i,i<N->aH (aH i)=aH i
 pi:xi N p
 pp:(aH p.1.toNat=m/\aH p.2.toNat=n)\/(aH p.1.toNat=n/\aH p.2.toNat=m)
 dm:jC (bQ c m).arcs
def TC.mrg(hL:A4 N ws L){W':X (Int×Int)}(T:Mg N p c aH m n)(h:TC ws N L (p::W) c aH){t:Int}{o:X aR}
  (ht:eP ws t=eP ws (bQ c m).kind&&&eP ws (bQ c n).kind) (hM:o.Perm ((bQ c m).arcs++oK (bQ c m).arcs (bQ c n).arcs)) (w1:∀z∈prs (bQ c m).arcs (bQ c n).arcs,z∈W') (w2:∀z∈W,z∈W'):
  TC ws N L W' (MB c m n t o) (fZ aH m n):=by
 obtain⟨nA,nL⟩:=T.pi;have cR:=T.ne;have aQ:=T.len;have hmc:m<c.length:=by have:=T.hm;omega
 have IH:n<c.length:=by have:=T.hn;omega
 have xI:=z_ hmc IH cR t o;have ida:∀j,j<N->aH (aH j)=aH j:=T.idem;have jlt:∀{j:Nat}{x:aO},L[j]? = some x->j<N:=fun hj=>by have:=(zG.1 hj).1;rw[hL.len]at this;exact this
 have mono:∀i j,aH i=aH j->fZ aH m n i=fZ aH m n j:=fun i j e=>N_ e;have lnk:∀{x y:Nat},Lnk N aH (p::W) x y->Lnk N (fZ aH m n) W' x y:=fun{x y} hl q q1 q2=>by
  refine hl q (fun i j hi hj e=>q1 i j hi hj (mono i j e)) fun z hz=>?_;rcases zI.1 hz with rfl |hz
  refine q1 _ _ qq0 qq0 ?_;unfold fZ;rcases T.pp with⟨e1,e2⟩|⟨e1,e2⟩;rw[e1,e2,if_neg cR,if_pos rfl];rw[e1,e2,if_neg cR,if_pos rfl];exact q2 z (w2 z hz)
 refine⟨fun j x a hj ha=>?_,fun i b hi nX hb=>?_,fun i hi nX k=>?_⟩;obtain⟨b,h1,h2,h3⟩:=h.cov j x a hj ha;by_cases en:aH j=n;have e1:fZ aH m n j=m:=by unfold fZ;rw[if_pos en]
 rw[e1,xI,if_neg cR,if_pos rfl];rw[en]at h1;show ∃b∈o,_;by_cases hf:DF (bQ c m).arcs b.Feat=true;obtain⟨z,hz,ez⟩:=YK.1 hf;refine⟨z,hM.mem_iff.2 (List.mem_append_left _ hz),by omega,fun q q1 q2=>?_⟩;have hpz:(z.To,b.To)∈prs (bQ c m).arcs (bQ c n).arcs:=List.mem_filterMap.2 ⟨b,h1,by rw[qzg T.dm hz ez];rfl⟩;have:=q2 (z.To,b.To) (w1 _ hpz);rw[this];exact lnk h3 q q1 q2;refine⟨b,hM.mem_iff.2 (List.mem_append_right _ (List.mem_filter.2 ⟨h1,by simpa using hf⟩)),h2,lnk h3⟩;have e1:fZ aH m n j=aH j:=by unfold fZ;rw[if_neg en]
 rw[e1,xI,if_neg en];by_cases em:aH j=m;rw[if_pos em];rw[em]at h1;exact⟨b,hM.mem_iff.2 (List.mem_append_left _ h1),h2,lnk h3⟩;rw[if_neg em];exact⟨b,h1,h2,lnk h3⟩;by_cases ein:i=n;subst ein
 rw[xI,if_pos rfl]at hb;cases hb;rw[xI,if_neg ein]at hb;by_cases eim:i=m;subst eim;rw[if_pos rfl]at hb;rcases yD.1 (hM.mem_iff.1 hb)with hb |hb;obtain⟨j,x,q1,q2,q3⟩:=h.snd _ b T.hm T.em hb;exact⟨j,x,q1,by unfold fZ;rw[q2,if_neg cR],q3⟩;obtain⟨j,x,q1,q2,q3⟩:=h.snd _ b T.hn T.en (List.mem_filter.1 hb).1;exact⟨j,x,q1,by unfold fZ;rw[q2,if_pos rfl],q3⟩;rw[if_neg eim]at hb;have Bn:aH i=i:=by unfold fZ at nX;split at nX;exact absurd nX.symm eim;exact nX
 obtain⟨j,x,q1,q2,q3⟩:=h.snd i b hi Bn hb;exact⟨j,x,q1,by unfold fZ;rw[q2,if_neg ein],q3⟩;by_cases ein:i=n;subst ein
 unfold fZ at nX;rw[T.en,if_pos rfl]at nX;exact absurd nX cR;rw[xI,if_neg ein];by_cases eim:i=m;subst eim;rw[if_pos rfl];show(eP ws t).testBit k=true↔_;rw[ht,Nat.testBit_and,Bool.and_eq_true,h.kd _ T.hm T.em,h.kd _ T.hn T.en];constructor;rintro⟨g1,g2⟩ j x hj Vj;unfold fZ at Vj;by_cases e:aH j=n;exact g2 j x hj e;rw[if_neg e]at Vj;exact g1 j x hj Vj;intro g;exact⟨fun j x hj e=>g j x hj (by unfold fZ;rw[e,if_neg cR]),fun j x hj e=>g j x hj (by unfold fZ;rw[if_pos e])⟩;rw[if_neg eim];have Bn:aH i=i:=by unfold fZ at nX;split at nX;exact absurd nX.symm eim;exact nX
 rw[h.kd i hi Bn];constructor;intro g j x hj e;refine g j x hj ?_;unfold fZ at e;split at e;exact absurd e.symm eim;exact e;intro g j x hj e;exact g j x hj (by unfold fZ;rw[e,if_neg ein])
def Q4.mrg(hL:A4 N ws L){W':X (Int×Int)}{q:Nat->Nat}(T:Mg N p c aH m n)(h:TC ws N L (p::W) c aH)(hq:o9 L q)(hu:Q4 N (p::W) aH q)(w:∀z∈W',z∈prs (bQ c m).arcs (bQ c n).arcs\/z∈W):
  q m=q n/\Q4 N W' (fZ aH m n) q:=by
 obtain⟨nA,nL⟩:=T.pi;have Vp:=hu.w p qq4;have e3:q m=q n:=by rcases T.pp with⟨e1,e2⟩|⟨e1,e2⟩;have a1:q m=q p.1.toNat:=hu.r _ _ T.hm qq0 (by rw[T.em,e1]);have a2:q n=q p.2.toNat:=hu.r _ _ T.hn qq0 (by rw[T.en,e2]);rw[a1,a2,Vp];have a1:q n=q p.1.toNat:=hu.r _ _ T.hn qq0 (by rw[T.en,e1]);have a2:q m=q p.2.toNat:=hu.r _ _ T.hm qq0 (by rw[T.em,e2]);rw[a1,a2,Vp]
 refine⟨e3,fun i j hi hj e=>?_,fun z hz=>?_⟩
 ·have ri:q (aH i)=q i:=hu.r _ _ (T.lt i hi) hi (T.idem i hi);have rj:q (aH j)=q j:=hu.r _ _ (T.lt j hj) hj (T.idem j hj);rw[<-ri,<-rj];unfold fZ at e;split at e
  ·next h1=>
   split at e
   ·next h2=>rw[h1,h2]
   ·next h2=>rw[h1,<-e3,e]
  ·next h1=>
   split at e
   ·next h2=>rw[h2,<-e3,e]
   ·next h2=>rw[e]
 rcases w z hz with hz |hz;obtain⟨x,hx,y,hy,hf,rfl⟩:=z1m hz;obtain⟨j,xc,q1,q2,q3⟩:=h.snd _ x T.hm T.em hx;obtain⟨j',yc,r1,r2,r3⟩:=h.snd _ y T.hn T.en hy;have jl:=(zG.1 q1).1;have jl':=(zG.1 r1).1;rw[hL.len]at jl jl';refine hq j j' xc yc x y q1 r1 ?_ q3 r3 hf;have a1:q j=q m:=hu.r _ _ jl T.hm (by rw[T.em,q2]);have a2:q j'=q n:=hu.r _ _ jl' T.hn (by rw[T.en,r2]);rw[a1,a2,e3];exact hu.w z (List.mem_cons_of_mem _ hz)
end Go.Proofs
