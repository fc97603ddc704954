import Derived.Test.YtldlchbgolpkaaaGreatP19
set_option linter.all false
namespace Go.Proofs
open Go Go.Rx Go.Vx Go.Shelf Go.Sort
set_option maxRecDepth 10000
variable{d:V bL}
variable{n:Nat}
def zct(h:AP d){all:V Str}(qN:all.length<=12){s:Str}(hs:lO d s)(ha:∀x∈all,lO d x)(hn:5000<=n):∃w,vp n d all s=some (bt w)/\w<4096/\∀i,w.testBit i=true↔∃t,all[i]? = some t/\oU d t s:=by
 obtain⟨low,b1,b2,b3,b4⟩:=z8v h hs hn;have:=jL (l:=all) (by omega) (F:=fun m z (s:V Nat)=>SB all n low m z (s.map fun(i:Nat)=>(i:Int))) (fun i s=>s.length<=i/\∀j,j∈s↔j<i/\∃t,all[j]? = some t/\t∈low) (Q:=fun r=>∃w,r=bt w/\w<4096/\∀i,w.testBit i=true↔∃t,all[i]? = some t/\oU d t s)
  (fun m i x s' hx aF bF hw hI ih=>by
   obtain⟨i1,i2⟩:=hI;simp only[SB,bF,zC,cH,hx,aP,O9 (l:=low) (by omega) x (n:=n) (by omega),Pj,hw,yA];by_cases hm:x∈low;simp only[hm,yC,zC];rw[fO (by omega)];have:=ih (s'++[i]) ⟨by simp;omega,fun j=>by rw[yD,i2,List.mem_singleton];constructor;rintro(⟨h1,h2⟩|rfl);exact⟨by omega,h2⟩;exact⟨by omega,x,hx,hm⟩;rintro⟨h1,h2⟩;by_cases e:j=i;exact .inr e;exact .inl ⟨by omega,h2⟩⟩;rw[List.map_append]at this;exact this;simp only[hm,yB,zD];exact ih s' ⟨by omega,fun j=>by
    rw[i2];constructor;rintro⟨h1,h2⟩;exact⟨by omega,h2⟩;rintro⟨h1,t,h2,h3⟩;refine⟨?_,t,h2,h3⟩;have:j≠i:=fun e=>by subst e;rw[hx]at h2;cases h2;exact hm h3
    omega⟩)
  (fun m s' bF hI=>by
   obtain⟨i1,i2⟩:=hI;have dK:∀i∈s',i<12:=fun i hi=>by have:=((i2 i).1 hi).1;omega
   simp only[SB,bF,zD,g_,Ss (l:=s') (by omega) dK hn,aP];refine⟨_,rfl,JE s',rfl,bi s' 0 dK (by omega),fun i=>?_⟩;rw[JE,zbs];simp only[Nat.zero_testBit,Bool.false_or,decide_eq_true_eq];rw[i2];constructor;rintro⟨_,t,h1,h2⟩;exact⟨t,h1,((b4 t).1 h2).2⟩;rintro⟨t,h1,h2⟩;exact⟨(zG.1 h1).1,t,h1,(b4 t).2 ⟨ha t (zX h1),h2⟩⟩) n 0 [] (by omega) (by omega) ⟨by simp,fun j=>by simp⟩
 obtain⟨r,h1,w,rfl,h2,h3⟩:=this;rw[zV]at h1;exact⟨w,by simp only[vp,b1,aP];exact h1,h2,h3⟩
structure FI(c0 ws:V Nat):Prop where
 pre:∃t,ws=c0++t
 nod:ws.Nodup
 ok:∀a∈ws,a<4096/\a≠0/\∃b∈c0,a&&&b=a
 len:ws.length<=257
def LM(ws:V Nat)(i k:Nat):Prop:=∀i' k' a b,k'<i'->(i'<i\/(i'=i/\k'<k))->ws[i']? = some a->ws[k']? = some b->a&&&b=0\/a&&&b∈ws
variable{ws:V Nat}
def LM.app{t:V Nat}{i k:Nat}(h:LM ws i k)(hi:i<ws.length):LM (ws++t) i k:=fun i' k' a b h1 h2 h3 h4=>by
 have e1:i'<ws.length:=by omega
 rw[List.getElem?_append_left e1]at h3;rw[List.getElem?_append_left (by omega)]at h4;rcases h i' k' a b h1 h2 h3 h4 with h5 |h5;exact .inl h5;exact .inr (List.mem_append_left _ h5)
def zz{c0:V Nat}{n:Nat}(hn:5000<=n){i:Nat}{rc:Int->V (V Int)->M (V (V Int))}{Q:V (V Int)->Prop}(KB:i<=256)(K5:∀ws',FI c0 ws'->i<ws'.length->(ws'.length<=256->LM ws' (i+1) 0)->∃r,rc ((i+1:Nat):Int) (ws'.map bt)=some r/\Q r):
  ∀(m k:Nat)(ws:V Nat),i-k<m->k<=i->FI c0 ws->i<ws.length->(ws.length<=256->LM ws i k)->∃r,YR n i rc m k (ws.map bt)=some r/\Q r
 |0,k,ws,hm,_,_,_,_=>by omega
 |m+1,k,ws,hm,hk,hf,hi,hc=>by
  have hl:=hf.len;have sy:IntKind.i64.wrap ((i:Int)+1)=((i+1:Nat):Int):=DD (by omega) (by omega);unfold YR;by_cases aF:k<i;have e0:decide ((k:Int)<(i:Int))=true:=by simp;omega
  simp only[e0,zC,yA];by_cases CZ:ws.length<=256;obtain⟨a,ha,tX⟩:=eA hi;obtain⟨b,hb,px⟩:=eA (show k<ws.length by omega);have e1:decide ((ws.length:Int)<=256)=true:=by simp;omega
  have ga:(ws.map bt)[i]? = some (bt a):=by rw[List.getElem?_map,ha];rfl
  have gb:(ws.map bt)[k]? = some (bt b):=by rw[List.getElem?_map,hb];rfl
  have hwk:IntKind.i64.wrap ((k:Int)+1)=((k+1:Nat):Int):=DD (by omega) (by omega);have oka:=hf.ok a tX;have okb:=hf.ok b px;simp only[e1,aP,zC,cH,ga,gb,zb1 oka.1 okb.1 (show 5<=n by omega),Tw (ws:=ws) (by omega) (b:=a&&&b) hn,Ql,hwk];have o9:∀t,(a&&&b=0\/a&&&b∈ws++t)->LM (ws++t) i (k+1):=fun t ht i' k' x y h1 h2 h3 h4=>by by_cases e:i'=i/\k'=k;obtain⟨rfl,rfl⟩:=e;rw[List.getElem?_append_left hi,ha]at h3;rw[List.getElem?_append_left (by omega),hb]at h4;cases h3;cases h4;exact ht;exact(hc CZ).app hi i' k' x y h1 (by omega) h3 h4
  by_cases hz:a&&&b=0;have e2:decide (((bt (a&&&b)).length:Int)>0)=false:=by rw[hz];simp[Q8]
  simp only[e2,zD,aP];refine zz hn KB K5 m (k+1) ws (by omega) (by omega) hf hi fun _=>?_;have:=o9 [] (.inl hz)
  rwa [List.append_nil]at this
  have e2:decide (((bt (a&&&b)).length:Int)>0)=true:=by rw[tF hz];simp
  simp only[e2,zC,aP];by_cases eF:a&&&b∈ws;simp only[eF,yC,Bool.not_true,zD];refine zz hn KB K5 m (k+1) ws (by omega) (by omega) hf hi fun _=>?_;have:=o9 [] (.inr (by simpa using eF))
  rwa [List.append_nil]at this
  simp only[eF,yB,Bool.not_false,zC];rw[fO (by omega)];have PC:FI c0 (ws++[a&&&b]):=by obtain⟨t,ht⟩:=hf.pre;refine⟨⟨t++[a&&&b],by rw[ht,zT]⟩,?_,fun c hc=>?_,by simp;omega⟩;rw[List.nodup_append];exact⟨hf.nod,by simp,fun x hx y hy e=>by simp at hy;subst hy;subst e;exact eF hx⟩;rcases yD.1 hc with hc |hc;exact hf.ok c hc;simp at hc;subst hc;obtain⟨g,hg,eg⟩:=oka.2.2;refine⟨Nat.lt_of_le_of_lt Nat.and_le_left oka.1,hz,g,hg,?_⟩;rw[Nat.and_assoc,Nat.and_comm b g,<-Nat.and_assoc,eg]
  have:=zz hn KB K5 m (k+1) (ws++[a&&&b]) (by omega) (by omega) PC (by simp;omega) fun _=>o9 [a&&&b] (.inr (by simp));rw[List.map_append]at this;exact this;have e1:decide ((ws.length:Int)<=256)=false:=by simp;omega
  simp only[e1,aP,zD,Qk,sy];exact K5 ws hf hi fun h=>absurd h CZ;have e0:decide ((k:Int)<(i:Int))=false:=by simp;omega
  simp only[e0,zD,aP,Qk,sy];refine K5 ws hf hi fun h i' k' a b h1 h2 h3 h4=>hc h i' k' a b h1 (by omega) h3 h4
def zbd{c0:V Nat}{n:Nat}(hn:5000<=n):∀(m i:Nat)(ws:V Nat),258-i<=m->i<=257->FI c0 ws->i<=ws.length->(ws.length<=256->LM ws i 0)->
  ∃r,OM n m i (ws.map bt)=some r/\∃ws',r=ws'.map bt/\FI c0 ws'/\(ws'.length<=256->LM ws' ws'.length 0)
 |0,i,ws,hm,_,_,_,_=>by omega
 |m+1,i,ws,hm,hi,hf,Jg,hc=>by
  have hl:=hf.len;unfold OM;simp only[yA];by_cases aF:i<ws.length;by_cases CZ:ws.length<=256;have e1:decide ((ws.length:Int)<=256)=true:=by simp;omega
  simp only[gP aF,zC,e1,aP];have:=zz (c0:=c0) hn (i:=i) (rc:=OM n m) (Q:=fun r=>∃ws',r=ws'.map bt/\FI c0 ws'/\(ws'.length<=256->LM ws' ws'.length 0)) (by omega) (fun ws' f1 f2 f3=>zbd hn m (i+1) ws' (by omega) (by omega) f1 (by omega) f3) n 0 ws (by omega) (by omega) hf aF hc;rw[zV]at this;exact this;have e1:decide ((ws.length:Int)<=256)=false:=by simp;omega
  simp only[gP aF,zC,e1,aP,zD,uj];exact⟨_,rfl,ws,rfl,hf,fun h=>absurd h CZ⟩;simp only[hX aF,zD,aP,uj];have:i=ws.length:=by omega
  exact⟨_,rfl,ws,rfl,hf,this ▸ hc⟩
def Q4(ws:V Nat):Prop:=∀a∈ws,∀b∈ws,a&&&b≠0->a&&&b∈ws
def LM.all(h:LM ws ws.length 0):Q4 ws:=fun a ha b hb d5=>by
 obtain⟨i,hi,rfl⟩:=List.mem_iff_getElem.1 ha;obtain⟨k,hk,rfl⟩:=List.mem_iff_getElem.1 hb;by_cases e:i=k;subst e;rw[Nat.and_self];exact ha;by_cases aF:k<i;exact(h i k _ _ aF (.inl hi) (List.getElem?_eq_getElem hi) (List.getElem?_eq_getElem hk)).resolve_left d5;rw[Nat.and_comm]at d5 ⊢;exact(h k i _ _ (by omega) (.inl hk) (List.getElem?_eq_getElem hk) (List.getElem?_eq_getElem hi)).resolve_left d5
def z51{c0:V Nat}(hl:c0.length<=12)(An:c0.Nodup)(hc:∀a∈c0,a<4096/\a≠0)(hn:5000<=n):∃ws,yy n (c0.map bt)=some (ws.map bt)/\FI c0 ws/\(ws.length<=256->Q4 ws):=by obtain⟨r,h1,ws,rfl,h2,h3⟩:=zbd (c0:=c0) hn n 0 c0 (by omega) (by omega) ⟨⟨[],by simp⟩,An,fun a ha=>⟨(hc a ha).1,(hc a ha).2,a,ha,Nat.and_self a⟩,by omega⟩ (by omega) (fun _ i' k' a b h1 h2=>by omega);rw[zV]at h1;refine⟨ws,?_,h2,fun h=>(h3 h).all⟩;rw[yy,fO (by rw[yA];omega)];exact h1
def ZM{l:V Str}(hl:l.length<=12)(hs:∀s∈l,s.length<=32)(hn:5000<=n):∃s,OH l n [] 0=some s:=by
 have:=jL (l:=l) (by omega) (F:=fun m z s=>OH l m s z) (fun i s=>s.length<=33*i) (Q:=fun _=>True)
  (fun m i x s hx aF bF hw hI ih=>by
   have TL:=hs x (zX hx);simp only[OH,bF,zC,mj,cH,hx,aP,hw];cases decide ((i:Int)>0)with
   |true=>simp only[zC];rw[fO (by show s.length+1<=_;omega),fO (by rw[zU];show s.length+1+x.length<=_;omega)];exact ih _ (by rw[zU,zU];show s.length+1+x.length<=_;omega)|false=>simp only[zD];rw[fO (by omega)];exact ih _ (by rw[zU];omega))
  (fun m s bF hI=>by simp only[OH,bF,zD,e_];exact⟨s,rfl,trivial⟩) n 0 [] (by omega) (by omega) (by simp)
 obtain⟨s,h1,_⟩:=this;exact⟨s,h1⟩
def z0m(h:AP d){all:V Str}(qN:all.length<=12){c0:V Nat}(KF:c0.length=all.length)(hc:∀a∈c0,a<4096){w:Nat}(hw:w<4096)(hn:5000<=n):
  ∃s,On n d all (c0.map bt) (bt w)=some s/\∀(i:Nat)(t:Str),c0.Nodup->c0[i]? = some w->all[i]? = some t->s=t:=by
 have:=jL (l:=all) (by omega) (F:=fun m z s=>SA d all (c0.map bt) (bt w) n m z s) (fun i (s:V Str)=>s.length<=i/\∀j,j<i->c0[j]? ≠some w) (Q:=fun s=>∀(i:Nat)(t:Str),c0.Nodup->c0[i]? = some w->all[i]? = some t->s=t)
  (fun m i x s hx aF bF wB hI ih=>by
   obtain⟨a,ha,tX⟩:=eA (l:=c0) (show i<c0.length by omega);have ga:(c0.map bt)[i]? = some (bt a):=by rw[List.getElem?_map,ha];rfl
   simp only[SA,bF,zC,cH,ga,hx,aP,xw (hc a tX) hw (show 5<=n by omega),zbj (w:=w) (n:=n) hw (show i<64 by omega),Pi,wB];by_cases e:a=w;subst e;simp only[yC,zC];refine⟨x,rfl,fun k t E9 hk ht=>?_⟩;obtain⟨p1,p2⟩:=zG.1 ha;obtain⟨q1,q2⟩:=zG.1 hk;have:i=k:=(List.getElem_inj E9).1 (p2.trans q2.symm);subst this;rw[hx]at ht;exact Option.some.inj ht;have fD:∀j,j<i+1->c0[j]? ≠some w:=fun j hj=>by by_cases e2:j=i;subst e2;rw[ha];exact fun h=>e (Option.some.inj h);exact hI.2 j (by omega)
   simp only[e,yB,zD];cases w.testBit i with
   |true=>simp only[zC];rw[fO (by have:=hI.1;omega)];exact ih (s++[x]) ⟨by have:=hI.1;simp;omega,fD⟩|false=>exact ih s ⟨by have:=hI.1;omega,fD⟩)
  (fun m s bF hI=>by obtain⟨out,m1,m2,m3⟩:=qsq h (l:=s) (by have:=hI.1;omega) hn;obtain⟨r,j1⟩:=ZM (l:=out) (by have:=hI.1;omega) (fun t ht=>by obtain⟨x,hx,e⟩:=(m3 t ht).2;have:=(h.nam.len x hx).2;rw[e]at this;exact this) hn;simp only[SA,bF,zD,f_,m1,aP];refine⟨r,j1,fun i t _ hi _=>absurd hi (hI.2 i ?_)⟩;have:=(zG.1 hi).1;omega) n 0 [] (by omega) (by omega) ⟨by simp,fun j hj=>by omega⟩
 rw[zV]at this;exact this
def cw:V Int->Nat
 |[z]=>z.toNat|_=>0
def J0(w:Nat):cw (bt w)=w:=by by_cases h:w=0;subst h;rfl;rw[tF h];simp[cw]
def cnt(x:dN):Nat:=(bl (cw x.Code)).length
def z43{x y:dN}{a b:Nat}(hx:x.Code=bt a)(hy:y.Code=bt b)(ha:a<4096)(hb:b<4096)(hn:5000<=n):∃r,yz n x y=some r/\(r=true->cnt y<=cnt x)/\(r=false->cnt x<=cnt y):=by
 have e1:cnt x=(bl a).length:=by rw[cnt,hx,J0]
 have e2:cnt y=(bl b).length:=by rw[cnt,hy,J0]
 rw[e1,e2];simp only[yz,hx,hy,qzr ha (show 100<=n by omega),qzr hb (show 100<=n by omega),aP];by_cases h1:((bl a).length:Int)>((bl b).length:Int);simp only[h1,yC,zC,aP];exact⟨true,rfl,fun _=>by omega,fun h=>by cases h⟩;simp only[h1,yB,zD];by_cases h2:((bl a).length:Int)=((bl b).length:Int);have:(((bl a).length:Int)==((bl b).length:Int))=true:=by simpa using h2
 simp only[this,zC,aP];exact⟨_,rfl,fun _=>by omega,fun _=>by omega⟩;have:(((bl a).length:Int)==((bl b).length:Int))=false:=by simpa using h2
 simp only[this,zD,aP];exact⟨false,rfl,fun h=>(by cases h),fun _=>by omega⟩
structure CI(nm:Nat->M Str)(ws:V Nat)(l:V dN):Prop where
 perm:(l.map dN.Code).Perm (ws.map bt)
 nam:∀w∈ws,∃x∈l,x.Code=bt w/\nm w=some x.Name
 srt:l.Pairwise fun a b=>cnt b<=cnt a
variable{nm:Nat->M Str}
variable{l:V dN}
def CI.len(h:CI nm ws l):l.length=ws.length:=by
 have:=h.perm.length_eq
 rwa [yA,yA]at this
def CI.cod(h:CI nm ws l):∀x∈l,∃w∈ws,x.Code=bt w:=fun x hx=>by
 have:=h.perm.mem_iff.1 (List.mem_map_of_mem (f:=dN.Code) hx);obtain⟨w,hw,e⟩:=List.mem_map.1 this;exact⟨w,hw,e.symm⟩
def Ti(h:CI nm ws l)(hl:l.length<=300)(hws:∀w∈ws,w<4096){w:Nat}(hw:w<4096){s:Str}(hs:nm w=some s)(hn:5000<=n){dP:Int}{rc:Int->V dN->M (V dN×Int)}{Q:V dN×Int->Prop}
  (K5:∀l',CI nm (ws++[w]) l'->∃r,rc (IntKind.i64.wrap (dP+1)) l'=some r/\Q r):
  ∀(m z:Nat),z<m->z<=l.length->(∀y∈l.drop z,cnt y<=cnt ⟨s,bt w⟩)->∃r,Qw n dP l rc s (bt w) m z=some r/\Q r:=by
 have fin:∀z,z<=l.length->(∀y∈l.drop z,cnt y<=cnt ⟨s,bt w⟩)->(∀y∈l.take z,cnt ⟨s,bt w⟩<=cnt y)->∃r,ue dP l rc s (bt w) z=some r/\Q r:=by
  intro z hz AB TW;have t1:((l.drop 0).take ((z:Int)).toNat)=l.take z:=by rw[List.drop_zero,zZ]
  have t2:((l.drop (0+((z:Int)).toNat)).take (l.length-((z:Int)).toNat))=l.drop z:=by rw[zZ,Nat.zero_add];exact zW (by simp)
  have tl:(l.take z).length=z:=by simp;omega
  have dl:(l.drop z).length=l.length-z:=by simp
  simp only[ue,t1,t2];rw[fO (by omega),fO (by rw[zZ];omega),fO (by rw[tl];omega),fO (by rw[tl];omega),fO (by omega),fO (by rw[zZ];omega),fO (by rw[zU,tl,dl];simp;omega)];refine K5 _ ⟨?_,fun v hv=>?_,?_⟩;have hp:((l.take z++[dN.mk s (bt w)])++l.drop z).Perm (l++[dN.mk s (bt w)]):=by rw[zT];refine(List.perm_append_comm_assoc _ _ _).trans ?_;rw[List.take_append_drop];exact List.perm_append_comm
  refine(hp.map dN.Code).trans ?_;rw[List.map_append,List.map_append];exact h.perm.append_right _;rcases yD.1 hv with hv |hv;obtain⟨x,hx,e1,e2⟩:=h.nam v hv;refine⟨x,?_,e1,e2⟩;rw[<-List.take_append_drop z l]at hx;rcases yD.1 hx with hx |hx;exact List.mem_append_left _ (List.mem_append_left _ hx);exact List.mem_append_right _ hx;simp at hv;subst hv;exact⟨⟨s,bt v⟩,by simp,rfl,hs⟩;have h1:=h.srt;rw[<-List.take_append_drop z l,List.pairwise_append]at h1;rw[List.pairwise_append,List.pairwise_append];refine⟨⟨h1.1,by simp,fun a ha b hb=>by simp at hb;subst hb;exact TW a ha⟩,h1.2.1,fun a ha b hb=>?_⟩;rcases yD.1 ha with ha |ha;exact h1.2.2 a ha b hb;simp at ha;subst ha;exact AB b hb
 intro m;induction m with
 |zero=>intro z hm;omega|succ m ih=>
  intro z hm hz AB;unfold Qw;by_cases h0:z=0;subst h0;simp only[zV,Int.lt_irrefl,yB,zD,aP,show((0:Int)>0)=False by simp];have:=fin 0 (by omega) AB (by simp)
  rwa [zV]at this
  have e0:decide ((z:Int)>0)=true:=by simp;omega
  have e1:IntKind.i64.wrap ((z:Int)-1)=((z-1:Nat):Int):=DD (by omega) (by omega);obtain⟨y,hy,CF⟩:=eA (l:=l) (show z-1<l.length by omega);obtain⟨v,hv,ev⟩:=h.cod y CF;obtain⟨r,r1,r2,r3⟩:=z43 (x:=⟨s,bt w⟩) (y:=y) rfl ev hw (hws v hv) hn;simp only[e0,zC,e1,cH,hy,aP,r1];cases r with
  |true=>
   simp only[zC];refine ih (z-1) (by omega) (by omega) fun x hx=>?_;rw[aV hy,show z-1+1=z by omega]at hx;rcases zI.1 hx with rfl |hx
   exact r2 rfl;exact AB x hx
  |false=>
   simp only[zD];refine fin z hz AB fun x hx=>?_;have h1:=h.srt;rw[<-List.take_append_drop (z-1) l,List.pairwise_append]at h1;have:l.take z=l.take (z-1)++[y]:=by rw[<-iY hy,show z-1+1=z by omega]
   rw[this]at hx;rcases yD.1 hx with hx |hx;exact Nat.le_trans (r3 rfl) (h1.2.2 x hx y (by rw[aV hy];simp));simp at hx;subst hx;exact r3 rfl
def WU(h:AP d):∃s0,lO d s0/\∀s,lO d s->oU d s s0:=by
 obtain⟨l,hl,aZ⟩:=h.ord;have cU:∀s,lO d s->s∈l:=fun s ⟨x,hx,e⟩=>by
  apply Classical.byContradiction;intro hn;have h3:=Og (a:=s::l) (b:=d.map bL.Name) (List.nodup_cons.2 ⟨hn,hl.nodup.1⟩) fun t ht=>by rcases zI.1 ht with rfl |ht;rw[<-e];exact List.mem_map_of_mem hx;obtain⟨y,hy,rfl⟩:=hl.nodup.2 t ht;exact List.mem_map_of_mem hy
  simp at h3;omega
 obtain⟨x0,xE⟩:∃x0,d.filter (fun x=>decide (x.Supers=[]))=[x0]:=List.length_eq_one_iff.1 h.one;have hm0:x0∈d:=(List.mem_filter.1 (show x0∈d.filter (fun x=>decide (x.Supers=[])) by rw[xE];simp)).1;refine⟨x0.Name,⟨x0,hm0,rfl⟩,fun s hs=>?_⟩;have key:∀{l:V Str},Ord d l->∀s∈l,oU d s x0.Name:=by
  intro l hl;induction hl with
  |nil=>intro s hs;cases hs| @snoc l x g1 g2 g3 g4 ih=>
   intro s hs;rcases yD.1 hs with hs |hs;exact ih s hs;simp at hs;subst hs;cases hsup:x.Supers with
   |nil=>have:x∈d.filter (fun x=>decide (x.Supers=[])):=List.mem_filter.2 ⟨g2,by simp[hsup]⟩;rw[xE]at this;simp at this;rw[this];exact .refl|cons u us=>
    have hu:u∈x.Supers:=by rw[hsup];simp
    exact oU.trans (.step .refl g2 rfl hu) (ih u (g4 u hu))
 exact key hl s (cU s hs)
structure HU(d:V bL)(l:V dN):Prop where
 ws:∃(nm:Nat->M Str)(c0 ws:V Nat),FI c0 ws/\Q4 ws/\CI nm ws l/\ws.length<=256/\0<ws.length
 dcl:∀s,lO d s->∃x∈l,x.Name=s
 top:∃w0,(∃x∈l,x.Code=bt w0)/\∀x∈l,w0&&&cw x.Code=cw x.Code
def HU.len{d:V bL}{l:V dN}(h:HU d l):l.length<=256/\0<l.length:=by obtain⟨nm,c0,ws,h1,h2,h3,h4,h5⟩:=h.ws;have:=h3.len;omega
def HU.cod{d:V bL}{l:V dN}(h:HU d l):∀x∈l,∃w,x.Code=bt w/\w<4096/\w≠0:=fun x hx=>by
 obtain⟨nm,c0,ws,h1,h2,h3,h4,h5⟩:=h.ws;obtain⟨w,hw,e⟩:=h3.cod x hx;exact⟨w,e,(h1.ok w hw).1,(h1.ok w hw).2.1⟩
def z97(hd:d.length<=12)(hn:5000<=n):∃l e,S4 n d=some (l,e)/\(e=0->AP d/\HU d l):=by
 obtain⟨e,c1,c2⟩:=z4j hd hn;simp only[S4,c1,aP];by_cases he:e=0;subst he;have h:=c2 rfl;obtain⟨all,n1,n2⟩:=names_ok (d:=d) (by omega) hn;have qN:all.length<=12:=by have:=n2.len;simp at this;omega
 have cU:∀s,s∈all↔lO d s:=fun s=>by rw[n2.mem];simp[lO,List.mem_map]
 simp only[bne_self_eq_false,zD,n1,aP];have:=jL (l:=all) (by omega) (F:=fun m z (s:V Nat)=>Hr d n all m z (s.map bt)) (fun i s=>s.length=i/\(∀w∈s,w<4096)/\∀(j w:Nat)(t:Str),s[j]? = some w->all[j]? = some t->∀i:Nat,w.testBit i=true↔∃u,all[i]? = some u/\oU d u t) (Q:=fun r=>r.2=0->AP d/\HU d r.1)
  (fun m i x s hx aF bF hw hI ih=>by
   obtain⟨i1,i2,i3⟩:=hI;obtain⟨w,w1,w2,w3⟩:=zct h qN ((cU x).1 (zX hx)) (fun y hy=>(cU y).1 hy) hn;simp only[Hr,bF,zC,cH,hx,aP,w1,hw,yA];rw[fO (by omega)];have:=ih (s++[w]) ⟨by simp;omega,fun v hv=>by
    rcases yD.1 hv with hv |hv;exact i2 v hv;simp at hv;subst hv;exact w2,fun j v t hj ht=>by
    by_cases e:j<s.length;rw[List.getElem?_append_left e]at hj;exact i3 j v t hj ht;have:j=i:=by have:=(zG.1 hj).1;simp at this;omega
    subst this;rw[List.getElem?_append_right (by omega),i1,Nat.sub_self]at hj;simp at hj;subst hj;rw[hx]at ht;cases ht;exact w3⟩
   rw[List.map_append]at this;exact this)
  (fun m c0 bF hI=>by
   obtain⟨i1,i2,i3⟩:=hI;have tM:∀(j w:Nat),c0[j]? = some w->w.testBit j=true:=fun j w hj=>by obtain⟨t,ht,_⟩:=eA (l:=all) (show j<all.length by have:=(zG.1 hj).1;omega);exact(i3 j w t hj ht j).2 ⟨t,ht,.refl⟩
   have Vu:c0.Nodup:=by rw[List.Nodup,List.pairwise_iff_getElem];intro a b ha hb vJ e;obtain⟨s,hs,Iz⟩:=eA (l:=all) (show a<all.length by omega);obtain⟨t,ht,Iw⟩:=eA (l:=all) (show b<all.length by omega);have ga:=List.getElem?_eq_getElem ha;have gb:=List.getElem?_eq_getElem hb;have h1:=tM a _ ga;have h2:=tM b _ gb;rw[e]at h1;rw[<-e]at h2;obtain⟨u,hu,hu2⟩:=(i3 b _ t gb ht a).1 h1;obtain⟨v,hv,hv2⟩:=(i3 a _ s ga hs b).1 h2;rw[hs]at hu;cases hu;rw[ht]at hv;cases hv;have:=zea h ((cU s).1 Iz) ((cU t).1 Iw) hu2 hv2;subst this;obtain⟨p1,p2⟩:=zG.1 hs;obtain⟨q1,q2⟩:=zG.1 ht;have:=(List.getElem_inj n2.asc.nodup).1 (p2.trans q2.symm);omega
   have hok0:∀a∈c0,a<4096/\a≠0:=fun a ha=>⟨i2 a ha,fun e=>by obtain⟨j,hj,e2⟩:=List.mem_iff_getElem.1 ha;have:=tM j a (by rw[List.getElem?_eq_getElem hj,e2]);rw[e]at this;simp at this⟩;obtain⟨ws,f1,f2,f3⟩:=z51 (c0:=c0) (by omega) Vu hok0 hn;simp only[Hr,bF,zD,x_,f1,aP,yA];by_cases CZ:(ws.length:Int)>256;simp only[CZ,yC,zC];exact⟨_,rfl,fun h=>by cases h⟩;simp only[CZ,yB,zD];have aZ:ws.length<=256:=by omega
   have:=jL (l:=ws) (by omega) (F:=fun m z (s:V dN)=>SG d n all (c0.map bt) (ws.map bt) m z s) (fun i s=>CI (fun w=>On n d all (c0.map bt) (bt w)) (ws.take i) s) (Q:=fun r=>r.2=0->AP d/\HU d r.1)
    (fun m' i w s hx aF dI y4 jN lJ=>by
     have FU:=zX hx;have okw:=f2.ok w FU;obtain⟨t,t1,t2⟩:=z0m h qN (c0:=c0) i1 i2 okw.1 hn;have Uf:(ws.map bt)[i]? = some (bt w):=by rw[List.getElem?_map,hx];rfl
     have FV:=jN.len;rw[List.length_take]at FV;simp only[SG,yA,dI,zC,cH,Uf,aP,t1];refine Ti (w:=w) (s:=t) jN (by omega) (fun v hv=>(f2.ok v (List.mem_of_mem_take hv)).1) okw.1 t1 hn (fun l' BK=>?_) n s.length (by omega) (by omega) (by simp);rw[y4];rw[<-iY hx]at BK;exact lJ l' BK)
    (fun m' s dI jN=>by
     rw[zW (zF _)]at jN;simp only[SG,yA,dI,zD,w_];have gA:0<ws.length:=by
      have A5:0<d.length:=by have:=h.one;rcases d with _|⟨x,d⟩;simp at this;simp
      obtain⟨x,hx,fT⟩:=eA (l:=d) A5;have:=(cU x.Name).2 ⟨x,fT,rfl⟩;have:=List.length_pos_of_mem this;obtain⟨t,ht⟩:=f2.pre;rw[ht,zU];omega
     have CH:∃w0,(∃x∈s,x.Code=bt w0)/\∀x∈s,w0&&&cw x.Code=cw x.Code:=by
      obtain⟨s0,q1,q2⟩:=WU h;obtain⟨j,hj,e⟩:=List.mem_iff_getElem.1 ((cU s0).2 q1);have CU:j<c0.length:=by omega
      obtain⟨p,hp⟩:=f2.pre;have FU:c0[j]∈ws:=by rw[hp];exact List.mem_append_left _ (List.getElem_mem CU)
      obtain⟨x,hx,hxc,_⟩:=jN.nam _ FU;have full:∀i,i<all.length->(c0[j]).testBit i=true:=fun i hi=>by obtain⟨u,hu,pb⟩:=eA hi;exact(i3 j _ s0 (List.getElem?_eq_getElem CU) (by rw[List.getElem?_eq_getElem hj,e]) i).2 ⟨u,hu,q2 u ((cU u).1 pb)⟩
      refine⟨c0[j],⟨x,hx,hxc⟩,fun y hy=>?_⟩;obtain⟨w,hw,ew⟩:=jN.cod y hy;rw[ew,J0];obtain⟨_,_,b,hb,vJ⟩:=f2.ok w hw;refine Nat.eq_of_testBit_eq fun i=>?_;rw[Nat.testBit_and];rcases sy:w.testBit i with _|_
      simp;have AG:b.testBit i=true:=by have:=congrArg (fun z=>z.testBit i) vJ;simp only[Nat.testBit_and,sy,Bool.true_and]at this;exact this
      obtain⟨k,hk,e2⟩:=List.mem_iff_getElem.1 hb;obtain⟨t,ht,_⟩:=eA (l:=all) (show k<all.length by omega);obtain⟨u,hu,_⟩:=(i3 k b t (by rw[List.getElem?_eq_getElem hk,e2]) ht i).1 AG;rw[full i (zG.1 hu).1];rfl
     refine⟨_,rfl,fun _=>⟨h,⟨_,c0,ws,f2,f3 aZ,jN,aZ,gA⟩,fun t ht=>?_,CH⟩⟩;obtain⟨j,hj,e⟩:=List.mem_iff_getElem.1 ((cU t).2 ht);have CU:j<c0.length:=by omega
     obtain⟨p,hp⟩:=f2.pre;have FU:c0[j]∈ws:=by rw[hp];exact List.mem_append_left _ (List.getElem_mem CU)
     obtain⟨x,hx,_,e2⟩:=jN.nam _ FU;refine⟨x,hx,?_⟩;obtain⟨s2,t1,t2⟩:=z0m h qN (c0:=c0) i1 i2 (f2.ok _ FU).1 hn;rw[t1]at e2;rw[<-Option.some.inj e2];exact t2 j t Vu (List.getElem?_eq_getElem CU) (by rw[List.getElem?_eq_getElem hj,e])) n 0 [] (by omega) (by omega) ⟨by simp,by simp,List.Pairwise.nil⟩
   rw[zV]at this;exact this) n 0 [] (by omega) (by omega) ⟨rfl,by simp,fun j w t hj=>by simp at hj⟩
 rw[zV]at this;obtain⟨r,h1,h2⟩:=this;exact⟨r.1,r.2,h1,h2⟩;have:(e != 0)=true:=by simpa using he
 simp only[this,zC];exact⟨[],e,rfl,fun h=>absurd h he⟩
variable{n:Nat}
def z1w{x:bL}(hx:x.Feats.length<=256)(s:Str)(hn:5000<=n):∃r,Ov n x s=some r/\(r.2=true->∃f∈x.Feats,f.Feat=s/\f.Value=r.1):=by
 have:=jL (l:=x.Feats) (by omega) (F:=fun m z (_:Unit)=>Hm x s m z) (fun _ _=>True) (Q:=fun r=>r.2=true->∃f∈x.Feats,f.Feat=s/\f.Value=r.1)
  (fun m i f _ hf aF bF hw _ ih=>by simp only[Hm,bF,zC,cH,hf,aP,LD,hw];by_cases e:f.Feat=s;simp only[e,yC,zC];exact⟨_,rfl,fun _=>⟨f,zX hf,e,rfl⟩⟩;simp only[e,yB,zD];exact ih () trivial)
  (fun m _ bF _=>by simp only[Hm,bF,zD,s_];exact⟨_,rfl,fun h=>by cases h⟩) n 0 () (by omega) (by omega) trivial
 rw[zV]at this;exact this
variable{l:V dN}
def fq(hl:l.length<=256)(s:Str)(hn:5000<=n):∃r,Gw n l s=some r/\((∃x∈l,x.Name=s)->∃j:Nat,r=(j:Int)/\j<l.length):=by
 have:=jL (l:=l) (by omega) (F:=fun m z (_:Unit)=>Hz l s m z) (fun i _=>∀x∈l.take i,x.Name≠s) (Q:=fun r=>(∃x∈l,x.Name=s)->∃j:Nat,r=(j:Int)/\j<l.length)
  (fun m i x _ hx aF bF hw hI ih=>by
   simp only[Hz,bF,zC,cH,hx,aP,LD,hw];by_cases e:x.Name=s;simp only[e,yC,zC];exact⟨_,rfl,fun _=>⟨i,rfl,aF⟩⟩;simp only[e,yB,zD];refine ih () fun y hy=>?_;rw[iY hx]at hy;rcases yD.1 hy with hy |hy
   exact hI y hy;simp at hy;subst hy;exact e)
  (fun m _ bF hI=>by rw[zW (zF _)]at hI;simp only[Hz,bF,zD,M_];exact⟨_,rfl,fun⟨x,hx,e⟩=>absurd e (hI x hx)⟩) n 0 () (by omega) (by omega) (by simp)
 rw[zV]at this;exact this
variable{d:V bL}
def z9g(hd:d.length<=12)(hf:∀x∈d,x.Feats.length<=256)(hn:5000<=n):∃f,YE n d=some f/\fW f/\f.length<=3072/\∀s∈f,∃x∈d,∃y∈x.Feats,y.Feat=s:=by
 have:=jL (l:=d) (by omega) (F:=fun m z s=>OI d n m s z) (fun i s=>fW s/\s.length<=256*i/\∀t∈s,∃x∈d,∃y∈x.Feats,y.Feat=t) (Q:=fun f=>fW f/\f.length<=3072/\∀s∈f,∃x∈d,∃y∈x.Feats,y.Feat=s)
  (fun m i x s hx aF bF hw hI ih=>by
   obtain⟨i1,i2,i3⟩:=hI;have fT:=zX hx;have hxf:=hf x fT;simp only[OI,bF,zC];have:=jL (l:=x.Feats) (by omega) (F:=fun m' z s'=>Hn d n i (OI d n m) m' s' z) (fun k s'=>fW s'/\s'.length<=s.length+k/\∀t∈s',∃x∈d,∃y∈x.Feats,y.Feat=t) (Q:=fun f=>fW f/\f.length<=3072/\∀s∈f,∃x∈d,∃y∈x.Feats,y.Feat=s)
    (fun m' k y s' hy tQ dI y4 jN lJ=>by obtain⟨j1,j2,j3⟩:=jN;obtain⟨o,h1,h2,h3,h4⟩:=Fa (l:=s') (by omega) j1 y.Feat (show s'.length<n by omega);simp only[Hn,cH,hx,aP,dI,zC,hy,h1,y4];refine lJ o ⟨h4,by omega,fun t ht=>?_⟩;rcases(h2 t).1 ht with rfl |ht;exact⟨x,fT,y,zX hy,rfl⟩;exact j3 t ht)
    (fun m' s' dI jN=>by obtain⟨j1,j2,j3⟩:=jN;simp only[Hn,cH,hx,aP,dI,zD,lg,hw];exact ih s' ⟨j1,by omega,j3⟩) n 0 s (by omega) (by omega) ⟨i1,by omega,i3⟩
   rw[zV]at this;exact this)
  (fun m s bF hI=>by simp only[OI,bF,zD,u_];exact⟨s,rfl,hI.1,by have:=hI.2.1;omega,hI.2.2⟩) n 0 [] (by omega) (by omega) ⟨List.Pairwise.nil,by simp,by simp⟩
 rw[zV]at this;exact this
def z2q(s:Str)(hn:40<=n):∃r,Hj n s=some r:=by obtain⟨r,h1,_⟩:=z0n s true hn;exact⟨r,by simp[Hj,h1,aP]⟩
def GG(d:V bL)(n:Nat)(x:bL):Prop:=∀f∈x.Feats,Hj n f.Feat=some true/\lO d f.Value
def qqb(h:AP d)(hn:5000<=n):∃e,uw n d=some e/\(e=0->∀x∈d,GG d n x):=by
 have hd:=h.len;obtain⟨all,n1,n2⟩:=names_ok (d:=d) (by omega) hn;have qN:all.length<=12:=by have:=n2.len;simp at this;omega
 have cU:∀s,s∈all↔lO d s:=fun s=>by rw[n2.mem];simp[lO,List.mem_map]
 have:=jL (l:=d) (by omega) (F:=fun m z (_:Unit)=>HH d n all m z) (fun i _=>∀x∈d.take i,GG d n x) (Q:=fun e=>e=0->∀x∈d,GG d n x)
  (fun m i x _ hx aF bF hw hI ih=>by
   have hxf:=(h.siz x (zX hx)).2;simp only[HH,bF,zC,cH,hx,aP];have:=jL (l:=x.Feats) (by omega) (F:=fun m' z (_:Unit)=>OT n all i (HH d n all m) x m' z) (fun k _=>∀f∈x.Feats.take k,Hj n f.Feat=some true/\lO d f.Value) (Q:=fun e=>e=0->∀x∈d,GG d n x)
    (fun m' k f _ hf tQ dI y4 jN lJ=>by
     obtain⟨r,r1⟩:=z2q f.Feat (n:=n) (by omega);simp only[OT,dI,zC,cH,hf,aP,r1];rcases r with _|_;exact⟨1,rfl,fun h=>by cases h⟩;simp only[Bool.not_true,zD];have hk:((k:Int)<=(x.Feats.length:Int)):=by omega
     have key:∀(m3 j:Nat),k-j<m3->j<=k->∃e,Sb n all x k (OT n all i (HH d n all m) x m') m3 j=some e/\(e=0->∀x∈d,GG d n x):=by
      intro m3;induction m3 with
      |zero=>intro j hm;omega|succ m3 so=>
       intro j hm hj;unfold Sb;by_cases AC:j<k;obtain⟨g,hg,_⟩:=eA (l:=x.Feats) (show j<x.Feats.length by omega);have e0:decide ((j:Int)<(k:Int))=true:=by simp;omega
       have e1:IntKind.i64.wrap ((j:Int)+1)=((j+1:Nat):Int):=DD (by omega) (by omega);simp only[e0,zC,cH,hg,hf,aP,e1];rcases lW g.Feat f.Feat with _|_;exact so (j+1) (by omega) (by omega);exact⟨4,rfl,fun h=>by cases h⟩;have e0:decide ((j:Int)<(k:Int))=false:=by simp;omega
       simp only[e0,zD,n?,cH,hf,aP,O9 (l:=all) (by omega) f.Value (n:=n) (by omega),y4];by_cases AA:f.Value∈all;simp only[AA,yC,Bool.not_true,zD];refine lJ () fun y hy=>?_;rw[iY hf]at hy;rcases yD.1 hy with hy |hy
       exact jN y hy;simp at hy;subst hy;exact⟨r1,(cU _).1 AA⟩;simp only[AA,yB,Bool.not_false,zC];exact⟨5,rfl,fun h=>by cases h⟩
     have:=key n 0 (by omega) (by omega);rw[zV]at this;exact this)
    (fun m' _ dI jN=>by
     rw[zW (zF _)]at jN;simp only[OT,dI,zD,uu,hw];refine ih () fun y hy=>?_;rw[iY hx]at hy;rcases yD.1 hy with hy |hy
     exact hI y hy;simp at hy;subst hy;exact jN) n 0 () (by omega) (by omega) (by simp)
   rw[zV]at this;exact this)
  (fun m _ bF hI=>by rw[zW (zF _)]at hI;simp only[HH,bF,zD,o?];exact⟨0,rfl,fun _=>hI⟩) n 0 () (by omega) (by omega) (by simp)
 rw[zV]at this;simp only[uw,n1,aP];exact this
def z07(h:AP d)(s:Str)(hn:5000<=n):∃r,Ow n d s=some r:=by
 have hd:=h.len;have:=jL (l:=d) (by omega) (F:=fun m z t=>SF d s n m t z) (fun i t=>fW t/\t.length<=i) (Q:=fun _=>True)
  (fun m i x t hx aF bF hw hI ih=>by
   obtain⟨i1,i2⟩:=hI;obtain⟨r,r1,_⟩:=z1w (h.siz x (zX hx)).2 s hn;simp only[SF,bF,zC,cH,hx,aP,r1,Pw,hw];cases r.2 with
   |true=>obtain⟨o,h1,h2,h3,h4⟩:=Fa (l:=t) (by omega) i1 x.Name (show t.length<n by omega);simp only[zC,h1,aP];exact ih o ⟨h4,by omega⟩
   |false=>exact ih t ⟨i1,by omega⟩)
  (fun m t bF hI=>by
   obtain⟨out,m1,m2,m3⟩:=qsq h (l:=t) (by have:=hI.2;omega) hn;simp only[SF,bF,zD,t_,m1,aP];by_cases e:(out.length:Int)=1;obtain⟨x,hx,_⟩:=eA (l:=out) (show 0<out.length by omega);have h0:aC out 0=some x:=by rw[<-hx];exact cH 0
   simp only[e,bne_self_eq_false,zD,h0,aP];exact⟨_,rfl,trivial⟩;have:((out.length:Int) != 1)=true:=by simpa using e
   simp only[this,zC];exact⟨_,rfl,trivial⟩) n 0 [] (by omega) (by omega) ⟨List.Pairwise.nil,by simp⟩
 rw[zV]at this;obtain⟨r,h1,_⟩:=this;exact⟨r,h1⟩
def kq(h:HU d l){i j:Nat}(hi:i<l.length)(hj:j<l.length)(hn:5000<=n):∃b,YO n l i j=some b:=by obtain⟨x,hx,fT⟩:=eA hi;obtain⟨y,hy,CF⟩:=eA hj;obtain⟨a,a1,a2,_⟩:=h.cod x fT;obtain⟨b,b1,b2,_⟩:=h.cod y CF;simp only[YO,cH,hx,hy,aP,a1,b1,fj b2 a2 (show 5<=n by omega)];exact⟨_,rfl⟩
def qon(h:AP d)(hl:HU d l)(hv:∀x∈d,∀f∈x.Feats,lO d f.Value){t:Nat}(ht:t<l.length)(s:Str)(hn:5000<=n):∃w b,Rh n d l t s=some (bt w,b)/\w<4096:=by
 have hd:=h.len;have CQ:=hl.len;obtain⟨x0,xE,X?⟩:=eA (l:=l) CQ.2;obtain⟨w0,a1,a2,_⟩:=hl.cod x0 X?;have:=jL (l:=d) (by omega) (F:=fun m z (s':D1×Nat)=>YW d l t s n m s'.1 (bt s'.2) z) (fun _ s'=>s'.2<4096) (Q:=fun r=>∃w b,r=(bt w,b)/\w<4096)
  (fun m i x s' hx aF bF hw hI ih=>by have fT:=zX hx;obtain⟨r,r1,r2⟩:=z1w (h.siz x fT).2 s hn;simp only[YW,bF,zC,cH,hx,aP,r1,hw];rcases hr:r.2 with _|_;simp only[Bool.not_false,zC,aP];exact ih s' hI;obtain⟨p,p1,p2⟩:=fq (l:=l) (by omega) x.Name hn;obtain⟨j,rfl,hj⟩:=p2 (hl.dcl _ ⟨x,fT,rfl⟩);obtain⟨b,b1⟩:=kq hl hj ht hn;simp only[Bool.not_true,zD,p1,aP,b1];rcases b with _|_;simp only[Bool.not_false,zC];exact ih s' hI;obtain⟨f,hf,_,e2⟩:=r2 hr;obtain⟨q,q1,q2⟩:=fq (l:=l) (by omega) r.1 hn;obtain⟨k,rfl,hk⟩:=q2 (hl.dcl _ (e2 ▸ hv x fT f hf));obtain⟨y,hy,CF⟩:=eA hk;obtain⟨v,v1,v2,_⟩:=hl.cod y CF;simp only[Bool.not_true,zD,q1,aP,cH,hy,v1,zb1 hI v2 (show 5<=n by omega)];exact ih (true,s'.2&&&v) (Nat.lt_of_le_of_lt Nat.and_le_left hI))
  (fun m s' bF hI=>by simp only[YW,bF,zD,e?];exact⟨_,rfl,s'.2,s'.1,rfl,hI⟩) n 0 (false,w0) (by omega) (by omega) a2
 rw[zV]at this;obtain⟨r,h1,w,b,rfl,h2⟩:=this;have h0:aC l 0=some x0:=by rw[<-xE];exact cH 0
 exact⟨w,b,by simp only[Rh,h0,aP,a1];exact h1,h2⟩
structure LW(d:V bL)(n:Nat)(l:V dN)(f:V Str):Prop where
 dok:AP d
 cod:S4 n d=some (l,0)
 cok:HU d l
 fea:YE n d=some f
 asc:fW f
 len:f.length<=64
 val:∀x∈d,GG d n x
 mem:∀s∈f,∃x∈d,∃y∈x.Feats,y.Feat=s
def qvj(hd:d.length<=12)(hn:5000<=n):∃e,YH n d=some e/\(e=0->∃l f,LW d n l f):=by
 obtain⟨l,e,c1,c2⟩:=z97 hd hn;simp only[YH,c1,aP];by_cases he:e=0;subst he;obtain⟨h,hl⟩:=c2 rfl;have CQ:=hl.len;obtain⟨f,f1,f2,f3,f4⟩:=z9g hd (fun x hx=>(h.siz x hx).2) hn;simp only[bne_self_eq_false,zD,f1,aP];by_cases sM:(f.length:Int)>64;simp only[sM,yC,zC];exact⟨7,rfl,fun h=>by cases h⟩;obtain⟨e2,d1,d2⟩:=qqb h hn;simp only[sM,yB,zD,d1,aP];by_cases he2:e2=0;subst he2;have hv:=d2 rfl;have xJ:LW d n l f:=⟨h,c1,hl,f1,f2,by omega,hv,f4⟩;simp only[bne_self_eq_false,zD];have:=jL (l:=f) (by omega) (F:=fun m z (_:Unit)=>Hq d n (l,0) f m z) (fun _ _=>True) (Q:=fun e=>e=0->∃l f,LW d n l f)
  (fun m i s _ hs aF bF hw _ ih=>by obtain⟨r,r1⟩:=z07 h s hn;simp only[Hq,bF,zC,cH,hs,aP,r1,hw];rcases r.2 with _|_;exact⟨10,rfl,fun h=>by cases h⟩;exact ih () trivial)
  (fun m _ bF _=>by
   simp only[Hq,bF,zD,li];have:=jL (l:=l) (by omega) (F:=fun m z (_:Unit)=>OJ d n (l,0) f m z) (fun _ _=>True) (Q:=fun e=>e=0->∃l f,LW d n l f)
    (fun m t _ _ _ tQ dI y4 _ lJ=>by
     simp only[OJ,dI,zC];have:=jL (l:=f) (by omega) (F:=fun m' z (_:Unit)=>Ho d n (l,0) f t (OJ d n (l,0) f m) m' z) (fun _ _=>True) (Q:=fun e=>e=0->∃l f,LW d n l f)
      (fun m' i s _ hs hlt3 Jk hw3 _ so=>by
       obtain⟨w,b,i1,_⟩:=qon h hl (fun x hx y hy=>(hv x hx y hy).2) tQ s hn;simp only[Ho,Jk,zC,cH,hs,aP,i1,hw3];rcases b with _|_;exact so () trivial;simp only[zC,aP];cases (((bt w).length:Int)==0)with
       |true=>exact⟨11,rfl,fun h=>by cases h⟩|false=>exact so () trivial)
      (fun m' _ Jk _=>by simp only[Ho,Jk,zD,lh,y4];exact lJ () trivial) n 0 () (by omega) (by omega) trivial
     rw[zV]at this;exact this)
    (fun m _ dI _=>by simp only[OJ,dI,zD,v_];exact⟨0,rfl,fun _=>⟨l,f,xJ⟩⟩) n 0 () (by omega) (by omega) trivial
   rw[zV]at this;exact this) n 0 () (by omega) (by omega) trivial
 rw[zV]at this;exact this;have:(e2 != 0)=true:=by simpa using he2
 simp only[this,zC];exact⟨e2,rfl,fun h=>absurd h he2⟩;have:(e != 0)=true:=by simpa using he
 simp only[this,zC];exact⟨e,rfl,fun h=>absurd h he⟩
def z9i(hl:HU d l){w:Nat}(hn:5000<=n):∃r,vq n l (bt w)=some r:=by
 have CQ:=hl.len;have:=jL (l:=l) (by omega) (F:=fun m z (_:Unit)=>Hh l n (bt w) m z) (fun _ _=>True) (Q:=fun _=>True)
  (fun m i x _ hx aF bF hw _ ih=>by
   obtain⟨a,a1,_⟩:=hl.cod x (zX hx);simp only[Hh,bF,zC,cH,hx,aP,a1,ay (a:=a) (b:=w) (n:=n) (by omega),hw];cases decide (a=w)with
   |true=>exact⟨_,rfl,trivial⟩|false=>exact ih () trivial)
  (fun m _ bF _=>by simp only[Hh,bF,zD,h_];exact⟨_,rfl,trivial⟩) n 0 () (by omega) (by omega) trivial
 rw[zV]at this;obtain⟨r,h1,_⟩:=this;exact⟨r,by simp only[vq,zdi (w:=w) (n:=n) (by omega),aP];exact h1⟩
def z88(hd:d.length<=12)(hn:5000<=n):∃v e,Pl n d=some (v,e)/\(e=0->∃l f,LW d n l f/\v.length=l.length):=by
 obtain⟨e,c1,c2⟩:=qvj hd hn;simp only[Pl,c1,aP];by_cases he:e=0;subst he;obtain⟨l,f,h⟩:=c2 rfl;have CQ:=h.cok.len;have CV:=h.len;simp only[bne_self_eq_false,zD,h.cod,h.fea,aP];have:=jL (l:=l) (by omega) (F:=fun m z s=>MQ d n (l,0) f m z s) (fun i s=>s.length=i) (Q:=fun r=>r.2=0->∃l f,LW d n l f/\r.1.length=l.length)
  (fun m t _ s _ aF bF hw hI ih=>by
   simp only[MQ,bF,zC];have:=jL (l:=f) (by omega) (F:=fun m' z s'=>SL d n (l,0) f t s (MQ d n (l,0) f m) m' z s') (fun i s'=>s'.length<=i) (Q:=fun r=>r.2=0->∃l f,LW d n l f/\r.1.length=l.length)
    (fun m' i x s' hx tQ dI y4 jN lJ=>by
     obtain⟨w,b,i1,_⟩:=qon h.dok h.cok (fun x hx y hy=>(h.val x hx y hy).2) aF x hn;simp only[SL,dI,zC,cH,hx,aP,i1,Qj,y4];cases b with
     |true=>obtain⟨r,r1⟩:=z9i h.cok (w:=w) hn;simp only[zC,r1,aP];rw[fO (by omega)];exact lJ _ (by simp;omega)
     |false=>exact lJ s' (by omega))
    (fun m' s' dI jN=>by simp only[SL,dI,zD,N_,hw];rw[fO (by omega)];exact ih _ (by simp;omega)) n 0 [] (by omega) (by omega) (by simp)
   rw[zV]at this;exact this)
  (fun m s bF hI=>by simp only[MQ,bF,zD,O_];exact⟨_,rfl,fun _=>⟨l,f,h,hI⟩⟩) n 0 [] (by omega) (by omega) (by simp)
 rw[zV]at this;obtain⟨r,h1,h2⟩:=this;exact⟨r.1,r.2,h1,h2⟩;have:(e != 0)=true:=by simpa using he
 simp only[this,zC];exact⟨[],e,rfl,fun h=>absurd h he⟩
def z3e(h:HU d l){t:Nat}(ht:t<l.length)(hn:5000<=n):∃r,yb n l t=some r:=by
 have CQ:=h.len;have:=jL (l:=l) (by omega) (F:=fun m z s=>HG l t n m z s) (fun i s=>s.length<=i) (Q:=fun _=>True)
  (fun m k _ s _ aF bF hw hI ih=>by
   obtain⟨b,b1⟩:=kq h aF ht hn;simp only[HG,bF,zC,b1,aP,hw];have go:∃r,YS l t n k s (HG l t n m) n true 0=some r/\True:=by
    have:=jL (l:=l) (by omega) (F:=fun m' z b=>YS l t n k s (HG l t n m) m' b z) (fun _ _=>True) (Q:=fun _=>True)
     (fun m' i _ b _ tQ dI y4 _ lJ=>by
      obtain⟨b1,g1⟩:=kq h aF tQ hn;obtain⟨b2,g2⟩:=kq h tQ ht hn;simp only[YS,dI,zC,y4,g1,g2,aP];rcases b with _|_;exact lJ false trivial;cases ((i:Int)==(t:Int))with
      |true=>exact lJ true trivial|false=>cases ((i:Int)==(k:Int))with|true=>exact lJ true trivial|false=>rcases b1 with _|_;exact lJ true trivial;exact lJ _ trivial)
     (fun m' b dI _=>by
      simp only[YS,dI,zD,ml,Qm,hw];cases b with
      |true=>simp only[zC];rw[fO (by omega)];exact ih _ (by simp;omega)|false=>exact ih s (by omega)) n 0 true (by omega) (by omega) trivial
    rw[zV]at this;exact this
   cases ((k:Int)==(t:Int))with|true=>simp only[zC,aP];exact ih s (by omega)|false=>simp only[zD,aP];rcases b with _|_;simp only[Bool.not_false,zC];exact ih s (by omega);simp only[Bool.not_true,zD];exact go)
  (fun m s bF hI=>by simp only[HG,bF,zD,P_];exact⟨_,rfl,trivial⟩) n 0 [] (by omega) (by omega) (by simp)
 rw[zV]at this;obtain⟨r,h1,_⟩:=this;exact⟨r,h1⟩
def qy8(hn:5000<=n){f:V Str}(h:LW d n l f)(hc:YH n d=some 0):∃r,ud n d=some (r,0)/\r.map eJ.Name=f:=by
 have CQ:=h.cok.len;have CV:=h.len;have:=jL (l:=f) (by omega) (F:=fun m z s=>Ig d n (l,0) f m z s) (fun i s=>s.map eJ.Name=f.take i) (Q:=fun r=>r.2=0/\r.1.map eJ.Name=f)
  (fun m i x s hx aF bF hw hI ih=>by
   obtain⟨r,r1⟩:=z07 h.dok x hn;obtain⟨q,q1,_⟩:=fq (l:=l) (by omega) r.1 hn;have FV:s.length=i:=by have:=congrArg List.length hI;simp at this;omega
   simp only[Ig,bF,zC,cH,hx,aP,r1,q1,hw];rw[fO (by omega)];exact ih _ (by rw[List.map_append,hI,iY hx];rfl))
  (fun m s bF hI=>by rw[zW (zF _)]at hI;simp only[Ig,bF,zD,b?];exact⟨_,rfl,rfl,hI⟩) n 0 [] (by omega) (by omega) (by simp)
 rw[zV]at this;obtain⟨r,h1,h2,h3⟩:=this;refine⟨r.1,?_,h3⟩;simp only[ud,hc,aP,bne_self_eq_false,zD,h.cod,h.fea,h1];rw[<-h2]
structure gz(d:V bL)(n:Nat)(h:cZ):Prop where
 ex:∃l f,LW d n l f/\h.Types.map dM.Code=l.map dN.Code/\h.Feats.map eJ.Name=f
def z2m(hd:d.length<=12)(hn:5000<=n):∃h e,S9 n d=some (h,e)/\(e=0->gz d n h)/\(e≠0->h=⟨[],[]⟩):=by
 obtain⟨v,e,v1,v2⟩:=z88 hd hn;simp only[S9,v1,aP];by_cases he:e=0;subst he;obtain⟨l,f,h,hv⟩:=v2 rfl;have CQ:=h.cok.len;have hc:YH n d=some 0:=by
  obtain⟨e,c1,c2⟩:=qvj hd hn;by_cases h0:e=0;rw[c1,h0];have:(e != 0)=true:=by simpa using h0
  simp only[Pl,c1,aP,this,zC,zA,zB]at v1;exact absurd v1.2 h0
 obtain⟨fs,g1,g2⟩:=qy8 hn h hc;simp only[bne_self_eq_false,zD,h.cod,aP];have:=jL (l:=l) (by omega) (F:=fun m z s=>Ib d n (v,0) (l,0) m z s) (fun i s=>s.map dM.Code=(l.take i).map dN.Code) (Q:=fun r=>r.2=0/\gz d n r.1)
  (fun m i x s hx aF bF hw hI ih=>by
   obtain⟨r,r1⟩:=z3e h.cok aF hn;obtain⟨y,hy,_⟩:=eA (l:=v) (show i<v.length by omega);have FV:s.length=i:=by have:=congrArg List.length hI;simp at this;omega
   simp only[Ib,bF,zC,cH,hx,hy,aP,r1,hw];rw[fO (by omega)];exact ih _ (by rw[List.map_append,hI,iY hx,List.map_append];rfl))
  (fun m s bF hI=>by rw[zW (zF _)]at hI;simp only[Ib,bF,zD,T_,g1,aP];exact⟨_,rfl,rfl,⟨l,f,h,hI,g2⟩⟩) n 0 [] (by omega) (by omega) (by simp)
 rw[zV]at this;obtain⟨r,h1,h2,h3⟩:=this;exact⟨r.1,r.2,h1,fun _=>h3,fun h=>absurd h2 h⟩;have:(e != 0)=true:=by simpa using he
 simp only[this,zC];exact⟨_,e,rfl,fun h=>absurd h he,fun _=>rfl⟩
end Go.Proofs
namespace Go.Proofs
open Go Go.Rx Go.Vx
set_option maxRecDepth 10000
structure nP(h:cZ)(ws:V Nat):Prop where
 cod:h.Types.map dM.Code=ws.map bt
 ok:∀w∈ws,w≠0/\w<4611686018427387904
 nod:ws.Nodup
 cls:Q4 ws
 len:ws.length<=1000
 pos:0<ws.length
 fl:h.Feats.length<=1000
 top:∀w∈ws,(ws[0]?).getD 0&&&w=w
variable{h:cZ}
variable{ws:V Nat}
def nP.tl(hh:nP h ws):h.Types.length=ws.length:=by have:=congrArg List.length hh.cod;simpa using this
def nP.at{h:cZ}{ws:V Nat}(hh:nP h ws){i:Nat}{w:Nat}(hi:ws[i]? = some w):∃t,h.Types[i]? = some t/\t.Code=bt w:=by
 have h1:(h.Types.map dM.Code)[i]? = some (bt w):=by rw[hh.cod,List.getElem?_map,hi];rfl
 rw[List.getElem?_map]at h1;rcases e:h.Types[i]? with _|t;rw[e]at h1;cases h1;rw[e]at h1;exact⟨t,rfl,Option.some.inj h1⟩
variable{n:Nat}
def z8x(w:Nat)(hn:5<=n):ve n [(w:Int)]=some (bt w):=by
 obtain⟨k,rfl⟩:=Nat.exists_eq_add_of_le' hn;have e0:IntKind.i64.wrap ((1:Int)-1)=0:=wr (z:=0) (by omega) (by omega);have e1:aC [(w:Int)] 0=some (w:Int):=rfl;have c0:qD [(w:Int)] 0 0=some []:=rfl;have c1:qD [(w:Int)] 0 1=some [(w:Int)]:=rfl;have e2:decide ((1:Int)>0)=true:=rfl;have e3:decide ((0:Int)>0)=false:=rfl;show Hx [(w:Int)] (k+5) 1=_;rw[Hx,e2,zC,e0,e1,aP,aP];by_cases hw:w=0;have:((w:Int)==0)=true:=by simp[hw]
 rw[this,zC,Hx,e3,zD,aP,zD,uh,c0,hw];rfl;have:((w:Int)==0)=false:=by simp[hw]
 rw[this,zD,uh,c1,tF hw];rfl
variable{a:Nat}
variable{b:Nat}
def zci(ha:a≠0/\a<4611686018427387904)(hb:b≠0/\b<4611686018427387904)(hn:5<=n):jq n (bt a) (bt b)=some (bt (a&&&b)):=by obtain⟨k,rfl⟩:=Nat.exists_eq_add_of_le' hn;have h1:=Q1 (a:=a) (b:=b) (by omega) (by omega);have h2:=z8x (a&&&b) (n:=k+5) (by omega);rw[tF ha.1,tF hb.1];have e:jq (k+5) [(a:Int)] [(b:Int)]=yr [(a:Int)] [(b:Int)] (k+5) [GM .u64 (a:Int) (b:Int)]:=rfl;rw[e,h1,yr,h2];rfl
def z4a(ha:a≠0/\a<4611686018427387904)(hb:b≠0/\b<4611686018427387904)(hn:5<=n):Gv n (bt a) (bt b)=some (decide (a&&&b=a)):=by
 obtain⟨k,rfl⟩:=Nat.exists_eq_add_of_le' hn;obtain⟨c,h1,h2⟩:=Sz (a:=a) (b:=b) (by omega) (by omega);rw[tF ha.1,tF hb.1];have e:Gv (k+5) [(a:Int)] [(b:Int)]=cond ((RT .u64 (a:Int) (b:Int)) != 0) (some false) (some true):=rfl;rw[e,h1];by_cases hc:c=0;have:=h2.1 hc;simp[hc,this];have:¬ a&&&b=a:=fun q=>hc (h2.2 q);have h3:((c:Int) != 0)=true:=by simpa using hc
 simp[this,h3]
def Do(ha:a≠0/\a<4611686018427387904)(hb:b≠0/\b<4611686018427387904)(hn:5<=n):vz n (bt a) (bt b)=some (decide (a=b)):=by
 rw[vz,z4a ha hb hn,z4a hb ha hn];by_cases h:a&&&b=a;by_cases h':b&&&a=b;have:a=b:=by rw[<-h,Nat.and_comm,h']
 simp[h,h',this,aP];have:a≠b:=fun e=>h' (by rw[<-e,Nat.and_self]);simp[h,h',this,aP];have:a≠b:=fun e=>h (by rw[<-e,Nat.and_self]);simp[h,this,aP]
def zbk{h:cZ}{ws:V Nat}(hh:nP h ws){c:Nat}(hc:c∈ws){n:Nat}(hn:5<=n):∀(m i:Nat),ws.length-i<m->i<=ws.length->(∀(k:Nat),k<i->ws[k]? ≠some c)->∃k:Nat,Se h.Types (bt c) (Ph n) m (i:Int)=some (k:Int)/\ws[k]? = some c
 |0,i,hm,_,_=>by omega
 |m+1,i,hm,hi,fD=>by
  have hl:=hh.tl;have Vb:=hh.len;obtain⟨q,hq⟩:=List.mem_iff_getElem?.1 hc;have P6:=(zG.1 hq).1;have aF:i<ws.length:=by rcases Nat.lt_or_ge q i with h1 |h1;exact absurd hq (fD q h1);omega
  obtain⟨w,hw,FU⟩:=eA aF;obtain⟨t,ht,he⟩:=hh.at hw;have h1:=Do (hh.ok w FU) (hh.ok c hc) hn;simp only[Se,hl,gP aF,zC,cH,ht,aP,Ph,he,h1];by_cases e:w=c;simp only[e,yC,zC];exact⟨i,rfl,by rw[hw,e]⟩;simp only[e,yB,zD,iF aF (show ws.length<=9223372036854775807 by omega)];exact zbk hh hc hn m (i+1) (by omega) (by omega) (fun k hk=>by by_cases e2:k=i;subst e2;rw[hw];intro q;exact e (Option.some.inj q);exact fD k (by omega))
def zdd(hh:nP h ws){i j:Nat}(hi:ws[i]? = some a)(hj:ws[j]? = some b)(hn:2000<=n):
  (a&&&b=0->J9 n h (i:Int) (j:Int)=some (0,false))/\(a&&&b≠0->∃k:Nat,J9 n h (i:Int) (j:Int)=some ((k:Int),true)/\ws[k]? = some (a&&&b)):=by
 obtain⟨t,ht,he⟩:=hh.at hi;obtain⟨t',v7,MY⟩:=hh.at hj;have tX:=zX hi;have px:=zX hj;have h1:=zci (hh.ok a tX) (hh.ok b px) (n:=n) (by omega);simp only[J9,cH,ht,v7,aP,he,MY,h1];constructor;intro h0;rw[h0];rfl;intro h0;have h2:=hh.cls a tX b px h0;obtain⟨k,h3,h4⟩:=zbk hh h2 (n:=n) (by omega) n 0 (by have:=hh.len;omega) (by omega) (fun k hk=>by omega);rw[zV]at h3;have e1:(((bt (a&&&b)).length:Int)==0)=false:=by rw[tF h0];rfl
 have e2:decide ((k:Int)<0)=false:=by simp
 simp only[e1,zD,sf,h3,aP,e2];exact⟨k,rfl,h4⟩
def f0(ws:V Nat)(t:Int):Nat:=(ws[t.toNat]?).getD 0
def M8{t:Int}(h:0<=t/\t<(ws.length:Int)):ws[t.toNat]? = some (f0 ws t):=by
 have:t.toNat<ws.length:=by omega
 rw[f0,List.getElem?_eq_getElem this];rfl
def Td(hh:nP h ws){s t:Int}(hs:0<=s/\s<(ws.length:Int))(ht:0<=t/\t<(ws.length:Int))(hn:2000<=n):
  ∃r,J9 n h s t=some r/\(r.2=false->f0 ws s&&&f0 ws t=0)/\(r.2=true->(0<=r.1/\r.1<(ws.length:Int))/\f0 ws r.1=f0 ws s&&&f0 ws t):=by obtain⟨h1,h2⟩:=zdd hh (M8 hs) (M8 ht) hn;rw[show((s.toNat:Nat):Int)=s by omega,show((t.toNat:Nat):Int)=t by omega]at h1 h2;by_cases e:f0 ws s&&&f0 ws t=0;exact⟨_,h1 e,fun _=>e,fun q=>by cases q⟩;obtain⟨k,h3,h4⟩:=h2 e;refine⟨_,h3,(fun q=>by cases q),fun _=>⟨?_,?_⟩⟩;have:=(zG.1 h4).1;constructor;exact Int.natCast_nonneg _;show(k:Int)<_;omega;show f0 ws (k:Int)=_;rw[f0,zZ,h4];rfl
def celN(c:V aT)(i:Nat):aT:=(c[i]?).getD ⟨-1,0,[]⟩
def mH(mt:Int->Int->M Int):Nat->V (Int×Int)->V aT->(Nat->Nat)->(Nat->Nat)->D1×V aT×(Nat->Nat)×(Nat->Nat)
 |0,_,c,aA,d=>(true,c,aA,d)|_+1,[],c,aA,d=>(true,c,aA,d)
 |k+1,p::W,c,aA,d=>
  if aA p.1.toNat=aA p.2.toNat then mH mt k W c aA d else
  match mt (celN c (aA p.1.toNat)).kind (celN c (aA p.2.toNat)).kind with
  |none=>(false,c,aA,d)|some t=>mH mt k ((prs (celN c (aA p.1.toNat)).arcs (celN c (aA p.2.toNat)).arcs).reverse++W) (xU c (aA p.1.toNat) (aA p.2.toNat) t (J2 (celN c (aA p.1.toNat)).arcs (celN c (aA p.2.toNat)).arcs)) (hJ aA (aA p.1.toNat) (aA p.2.toNat)) (GL aA d (aA p.2.toNat))
def BD(n:Nat)(h:cZ)(s t:Int):M Int:=match J9 n h s t with
 |some (r,true)=>some r|_=>none
def Mw(N:Nat)(p:Int×Int):Prop:=(0<=p.1/\p.1<(N:Int))/\(0<=p.2/\p.2<(N:Int))
def kD.celN{N D:Nat}{FB TB:Int}{cells:V aT}{aA d:Nat->Nat}(h:kD N D FB TB cells aA d){i:Nat}(hi:i<N):cells[i]? = some (celN cells i):=by have h1:=h.len;rw[Go.Proofs.celN,List.getElem?_eq_getElem (by omega)];rfl
variable{N:Nat}
variable{FB:Int}
def Z4{a b:V aG}(ha:wZ N FB a)(hb:wZ N FB b):∀p∈prs a b,Mw N p:=fun p hp=>by
 obtain⟨x,hx,y,hy,_,rfl⟩:=S' hp;exact⟨(ha.ok x hx).2.2,(hb.ok y hy).2.2⟩
structure Rnd(N D:Nat)(FB TB:Int)(W:V (Int×Int))(c:V aT)(aA d:Nat->Nat):Prop where
 hp:kD N D FB TB c aA d
 wi:∀p∈W,Mw N p
variable{D:Nat}
variable{TB:Int}
variable{W:V (Int×Int)}
variable{p:Int×Int}
variable{c:V aT}
variable{aA:Nat->Nat}
variable{d:Nat->Nat}
def Rnd.skip(h:Rnd N D FB TB (p::W) c aA d):Rnd N D FB TB W c aA d:=⟨h.hp,fun q hq=>h.wi q (List.mem_cons_of_mem _ hq)⟩
structure Two(N:Nat)(FB TB:Int)(c:V aT)(aA:Nat->Nat)(m n:Nat):Prop where
 hm:m<N
 hn:n<N
 em:aA m=m
 en:aA n=n
 cm:c[m]? = some (celN c m)
 cn:c[n]? = some (celN c n)
 am:wZ N FB (celN c m).arcs
 an:wZ N FB (celN c n).arcs
 km:0<=(celN c m).kind/\(celN c m).kind<TB
 kn:0<=(celN c n).kind/\(celN c n).kind<TB
def Rnd.two(h:Rnd N D FB TB (p::W) c aA d):Two N FB TB c aA (aA p.1.toNat) (aA p.2.toNat):=by obtain⟨h1,h2⟩:=h.wi p (by simp);have l1:=h.hp.rok.lt p.1.toNat (by omega);have l2:=h.hp.rok.lt p.2.toNat (by omega);have c1:=h.hp.celN l1;have c2:=h.hp.celN l2;exact⟨l1,l2,h.hp.rok.idem _ (by omega),h.hp.rok.idem _ (by omega),c1,c2,h.hp.ar _ _ c1,h.hp.ar _ _ c2,h.hp.kd _ _ c1,h.hp.kd _ _ c2⟩
def Rnd.next(h:Rnd N D FB TB (p::W) c aA d)(d5:aA p.1.toNat≠aA p.2.toNat){t:Int}(ht:0<=t/\t<TB):
  Rnd N (D+1) FB TB ((prs (celN c (aA p.1.toNat)).arcs (celN c (aA p.2.toNat)).arcs).reverse++W) (xU c (aA p.1.toNat) (aA p.2.toNat) t (J2 (celN c (aA p.1.toNat)).arcs (celN c (aA p.2.toNat)).arcs)) (hJ aA (aA p.1.toNat) (aA p.2.toNat)) (GL aA d (aA p.2.toNat)):=by have T:=h.two;have hM:=Y5 _ _ T.am.up T.an.up;refine⟨h.hp.mrg T.hm T.hn T.em T.en d5 (hM.ok T.am T.an) ht,fun q hq=>?_⟩;rcases yD.1 hq with hq |hq;exact Z4 T.am T.an q (List.mem_reverse.1 hq);exact h.wi q (List.mem_cons_of_mem _ hq)
def Two.tot{N:Nat}{FB TB:Int}{c:V aT}{aA:Nat->Nat}{m n:Nat}(T:Two N FB TB c aA m n)(d5:m≠n)(t:Int)(W:V (Int×Int)):((prs (celN c m).arcs (celN c n).arcs).reverse++W).length+tot (xU c m n t (J2 (celN c m).arcs (celN c n).arcs))=W.length+tot c:=by have:=ze7 T.cm T.cn d5 t (Y5 _ _ T.am.up T.an.up);simp only[zU,List.length_reverse];omega
def stk(W:V (Int×Int)):V i5:=(W.map pk).reverse
def zaq(p:Int×Int)(W:V (Int×Int)):stk (p::W)=stk W++[pk p]:=by simp[stk]
def ze2(W:V (Int×Int))(l:V (Int×Int)):stk W++l.map pk=stk (l.reverse++W):=by simp[stk]
def z7x(W:V (Int×Int)):(stk W).length=W.length:=by simp[stk]
def zby{v11:Type}(l:V v11)(x:v11)(hl:l.length<=1000000000):decide (((l++[x]).length:Int)>0)=true/\IntKind.i64.wrap (((l++[x]).length:Int)-1)=(l.length:Int)/\aC (l++[x]) (l.length:Int)=some x/\(l++[x]).take l.length=l:=by refine⟨by simp,?_,?_,by simp⟩;simp only[zU,zO,zS];exact DD (by omega) (by omega);rw[cH];simp
def qu{h:cZ}{ws:V Nat}(hh:nP h ws){s t:Int}(hs:0<=s/\s<(ws.length:Int))(ht:0<=t/\t<(ws.length:Int)){n:Nat}(hn:2000<=n):
  (BD n h s t=none/\(∃r,J9 n h s t=some r/\r.2=false)/\f0 ws s&&&f0 ws t=0)\/(∃r,BD n h s t=some r/\J9 n h s t=some (r,true)/\(0<=r/\r<(ws.length:Int))/\f0 ws r=f0 ws s&&&f0 ws t):=by obtain⟨⟨r,b⟩,h1,h2,h3⟩:=Td hh hs ht hn;rcases b with _|_;exact .inl ⟨by rw[BD,h1],⟨_,h1,rfl⟩,h2 rfl⟩;exact .inr ⟨r,by rw[BD,h1],h1,(h3 rfl).1,(h3 rfl).2⟩
def E'{mt:Int->Int->M Int}{N:Nat}{FB TB:Int}(EA:∀s t r,(0<=s/\s<TB)->(0<=t/\t<TB)->mt s t=some r->0<=r/\r<TB):∀(k:Nat)(W:V (Int×Int))(c:V aT)(aA d:Nat->Nat)(D:Nat),Rnd N D FB TB W c aA d->W.length+tot c<k->
  ∃D',D'+tot (mH mt k W c aA d).2.1<=D+W.length+tot c/\kD N D' FB TB (mH mt k W c aA d).2.1 (mH mt k W c aA d).2.2.1 (mH mt k W c aA d).2.2.2
 |0,W,c,aA,d,D,h,hk=>by omega
 |k+1,[],c,aA,d,D,h,hk=>⟨D,by simp[mH],h.hp⟩|k+1,p::W,c,aA,d,D,h,hk=>by simp only[zO]at hk ⊢;unfold mH;by_cases e:aA p.1.toNat=aA p.2.toNat;rw[if_pos e];obtain⟨D',h1,h2⟩:=E' EA k W c aA d D h.skip (by omega);exact⟨D',by omega,h2⟩;rw[if_neg e];have T:=h.two;rcases hm:mt (celN c (aA p.1.toNat)).kind (celN c (aA p.2.toNat)).kind with _|t;exact⟨D,by simp,h.hp⟩;have ht:=EA _ _ _ T.km T.kn hm;have hT:=T.tot e t W;obtain⟨D',h1,h2⟩:=E' EA k _ _ _ _ (D+1) (h.next e ht) (by omega);exact⟨D',by simp only;omega,h2⟩
def ef{p7:V bJ}(hp:p7.length<=1000000){N:Nat}:∀(m:Nat)(tl:V bJ)(c:V aT),tl.length<m->tl.length<=1000000->c.length=N->(∀x∈tl,0<=x.atx/\x.atx<(N:Int))->Rz (p7.length:Int) m c (p7++tl)=some (qS tl c,p7)
 |0,tl,c,hm,_,_,_=>by omega
 |m+1,tl,c,hm,hl,hc,ht=>by
  unfold Rz;rcases List.eq_nil_or_concat tl with e |⟨tl,x,e⟩;subst e;have:decide (((p7++[]).length:Int)>(p7.length:Int))=false:=by simp
  rw[this,zD,k?,List.append_nil];rfl;rw[List.concat_eq_append]at e;subst e;rw[<-zT];simp only[zU,zO,zS]at hm hl;obtain⟨h1,h2,h3,h4⟩:=zby (p7++tl) x (by simp only[zU];omega);have hx:=ht x (by simp);have h5:decide (((p7++tl++[x]).length:Int)>(p7.length:Int))=true:=by simp;omega
  obtain⟨y,hy,_⟩:=eA (l:=c) (show x.atx.toNat<c.length by omega);have h6:aC c x.atx=some y:=by rw[show x.atx=((x.atx.toNat:Nat):Int) by omega,cH];exact hy
  rw[h5,zC,h2,h3,aP,h6,aP,aH,if_pos (by simp only[zU,zO,zS];omega),aH,if_pos (by simp only[zU,zO,zS,zZ];omega),zZ,h4,Nat.zero_add,fc];exact ef hp m tl _ (by omega) (by omega) (by simp[hc]) (fun z hz=>ht z (List.mem_append_left _ hz))
def Dm{N:Nat}{FB TB:Int}{c:V aT}{aA:Nat->Nat}{m n:Nat}(T:Two N FB TB c aA m n)(d5:m≠n)(t:Int)(o:V aG)(tl:V bJ):qS ((tl++[⟨(m:Int),celN c m⟩])++[⟨(n:Int),celN c n⟩]) (xU c m n t o)=qS tl c:=by
 rw[fc,fc];have h1:(c.set m ⟨-1,t,o⟩)[n]? = some (celN c n):=by rw[List.getElem?_set_ne d5];exact T.cn
 simp only[zZ,xU];rw[z1j h1,z1j T.cm]
def cj{h:cZ}{ws:V Nat}(hh:nP h ws){N:Nat}{FB:Int}(J:FB<=1000000000){n:Nat}(hn:100000<=n){p7:V bJ}(hp7:p7.length<=100000)(p9:V d6)(c0:V aT):∀(k:Nat)(W:V (Int×Int))(c:V aT)(aA d:Nat->Nat)(D:Nat)(tl:V bJ)(t:Nat),
  Rnd N D FB ws.length W c aA d->W.length+tot c<k->D+W.length+tot c<=20000->(∀x∈tl,0<=x.atx/\x.atx<(N:Int))->qS tl c=c0->tl.length+2*(W.length+tot c)<=90000-> ((mH (BD n h) k W c aA d).1=true->∃lS t',OU h.Types h.Feats p7 p9 n k (stk W) c (p7++tl) t=some (true,(mH (BD n h) k W c aA d).2.1,p7++lS,t')/\qS lS (mH (BD n h) k W c aA d).2.1=c0/\(∀x∈lS,0<=x.atx/\x.atx<(N:Int))/\lS.length+2*tot (mH (BD n h) k W c aA d).2.1<=tl.length+2*(W.length+tot c))/\ ((mH (BD n h) k W c aA d).1=false->∃t',OU h.Types h.Feats p7 p9 n k (stk W) c (p7++tl) t=some (false,c0,p7,t'))
 |0,W,c,aA,d,D,tl,t,hr,hk,_,_,_,_=>by omega
 |k+1,[],c,aA,d,D,tl,t,hr,hk,hD,pE,Jm,P3=>by have e:decide (((stk []).length:Int)>0)=false:=rfl;simp only[mH,OU,e,zD,p?];exact⟨fun _=>⟨tl,t,rfl,Jm,pE,by simp⟩,fun q=>by cases q⟩
 |k+1,p::W,c,aA,d,D,tl,t,hr,hk,hD,pE,Jm,P3=>by
  simp only[zO]at hk hD P3;obtain⟨HJ,BJ⟩:=hr.wi p (by simp);obtain⟨h1,h2,h3,h4⟩:=zby (stk W) (pk p) (by rw[z7x];omega);have f1:=dt hr.hp (n:=n) (by omega) HJ h.Types h.Feats (p7++tl) p9;have f2:=dt hr.hp (n:=n) (by omega) BJ h.Types h.Feats (p7++tl) p9;have aZ:=z7x W;rw[zaq];unfold OU;simp only[h1,h2,h3,zC,aP,zZ,h4];rw[aH,if_pos (by simp only[zU,zO,zS];omega),aH,if_pos (by simp only[zU,zO,zS];omega)];simp only[pk,f1,f2,aP];unfold mH;by_cases e:aA p.1.toNat=aA p.2.toNat;have e1:(rI aA p.1==rI aA p.2)=true:=by simp[rI,e]
  simp only[e1,zC];rw[if_pos e];have:=cj hh J hn hp7 p9 c0 k W c aA d D tl t hr.skip (by omega) (by omega) pE Jm (by omega);refine⟨fun q=>?_,this.2⟩;obtain⟨lS,t',r1,r2,r3,r4⟩:=this.1 q;exact⟨lS,t',r1,r2,r3,by simp only[zO];omega⟩;have e1:(rI aA p.1==rI aA p.2)=false:=by simp only[rI,beq_eq_false_iff_ne];omega
  have T:=hr.two;have i1:aC c (rI aA p.1)=some (celN c (aA p.1.toNat)):=by rw[rI,cH];exact T.cm
  have i2:aC c (rI aA p.2)=some (celN c (aA p.2.toNat)):=by rw[rI,cH];exact T.cn
  simp only[e1,zD,i1,i2,aP];rw[if_neg e];have eZ:=hr.hp.len;rcases qu hh T.km T.kn (n:=n) (by omega)with⟨m1,⟨⟨q1,q2⟩,m2,m3⟩,_⟩|⟨r,m1,m2,m3,_⟩;simp only at m3;subst m3;have hb:=ef (p7:=p7) (by omega) n tl c (by omega) (by omega) eZ pE;have AA:J9 n (cZ.mk h.Types h.Feats) (celN c (aA p.1.toNat)).kind (celN c (aA p.2.toNat)).kind=some (q1,false):=m2;simp only[m1,AA,aP,Bool.not_false,zC,If,hb,Jm];exact⟨(fun q=>by cases q),fun _=>⟨t,rfl⟩⟩;have AA:J9 n (cZ.mk h.Types h.Feats) (celN c (aA p.1.toNat)).kind (celN c (aA p.2.toNat)).kind=some (r,true):=m2;have ta:=Fk T.cm;have tb:=Fk T.cn;obtain⟨o,j1,j2⟩:=dq T.am T.an J (by omega) (by omega) (n:=n) (by omega) n 0 (celN c (aA p.1.toNat)).arcs (by omega) (by omega) (rR.nilr T.am.up);rw[zV,List.take_zero,z6w,List.map_nil]at j1;have j3:=j2.uniq (Y5 _ _ T.am.up T.an.up);have jc:Ra n (celN c (aA p.1.toNat)).arcs=some (celN c (aA p.1.toNat)).arcs:=by
   rw[Ra];cases hL:(celN c (aA p.1.toNat)).arcs with
   |nil=>first |rfl |(simp[bothL,hL])
   |cons x l=>rw[bothL];simp only[zC,zD];rw[hL]at ta;rw[aH,if_pos (by omega)]
  have jj:yw n (celN c (aA p.1.toNat)).arcs (celN c (aA p.2.toNat)).arcs=some (o,(prs (celN c (aA p.1.toNat)).arcs (celN c (aA p.2.toNat)).arcs).map pk):=by rw[yw,jc,aP,j1]
  have e2:(c.set (0+(rI aA p.1).toNat) (aT.mk (-1) r o))[aA p.2.toNat]? = some (celN c (aA p.2.toNat)):=by rw[rI,zZ,Nat.zero_add,List.getElem?_set_ne e];exact T.cn
  have i3:aC (c.set (0+(rI aA p.1).toNat) (aT.mk (-1) r o)) (rI aA p.2)=some (celN c (aA p.2.toNat)):=by rw[show rI aA p.2=((aA p.2.toNat:Nat):Int)from rfl,cH];exact e2
  simp only[m1,AA,aP,Bool.not_true,zD,jj,Z_,Y_,i1];rw[aH,if_pos (by simp only[zU];omega)];simp only[aP,i3];rw[aH,if_pos (by simp only[zU,zO,zS];omega)];have kI:=Fs (celN c (aA p.1.toNat)).arcs (celN c (aA p.2.toNat)).arcs;simp only[aP];rw[aH,if_pos (by simp only[yA];omega)];have hT:=T.tot e r W;have ih:=cj hh J hn hp7 p9 c0 k _ _ _ _ (D+1) ((tl++[⟨rI aA p.1,celN c (aA p.1.toNat)⟩])++[⟨rI aA p.2,celN c (aA p.2.toNat)⟩]) (t+1+1) (hr.next e m3) (by omega) (by omega)
   (fun x hx=>by simp only[yD,zI,List.not_mem_nil,or_false]at hx;rcases hx with(hx |hx)|hx;exact pE x hx;subst hx;exact hr.hp.rI HJ;subst hx;exact hr.hp.rI BJ)
   ((Dm T e r _ tl).trans Jm) (by simp only[zU,zO,zS];simp only[zU]at hT;omega)
  have ea:p7++tl++[⟨rI aA p.1,celN c (aA p.1.toNat)⟩]++[⟨rI aA p.2,celN c (aA p.2.toNat)⟩]=p7++((tl++[⟨rI aA p.1,celN c (aA p.1.toNat)⟩])++[⟨rI aA p.2,celN c (aA p.2.toNat)⟩]):=by simp
  have ec:(c.set (0+(rI aA p.1).toNat) (aT.mk (-1) r o)).set (0+(rI aA p.2).toNat) (aT.mk (rI aA p.1) 0 [])=xU c (aA p.1.toNat) (aA p.2.toNat) r (J2 (celN c (aA p.1.toNat)).arcs (celN c (aA p.2.toNat)).arcs):=by simp[xU,rI,j3]
  rw[ea,ec,ze2];refine⟨fun q=>?_,ih.2⟩;obtain⟨lS,t',r1,r2,r3,r4⟩:=ih.1 q;refine⟨lS,t',r1,r2,r3,?_⟩;simp only[zU,zO,zS]at r4 hT ⊢;omega
def z5s{N D B:Nat}{FB TB:Int}{cells:V aT}{aA d:Nat->Nat}(h:kD N D FB TB cells aA d)(hB:tot cells<=B)(hB2:B<=20000)(hN:N<=1000)(hD:D<=20000)(p2:V dM)(p3:V eJ)(p9:V bJ)(iH:V d6):∀(n:Nat)(s:V Int×V aJ)(v:Int)(w:eI Int Int)(t:Nat),Sn N B s->(0<=v/\v<(N:Int))->Rep w s.1->N-s.1.length+20001<n->
  ∃w' t',SR n v p2 p3 w s.2 t cells p9 iH=some ((vis cells aA n s v).1,w',(vis cells aA n s v).2.2,t')/\Rep w' (vis cells aA n s v).2.1
 |0,s,v,w,t,hs,hv,hw,hn=>by omega
 |n+1,s,v,w,t,hs,hv,hw,hn=>by
  have hf:=dt h (n:=n) (by omega) hv p2 p3 p9 iH;have hr:=h.rI hv;have sL:=hs.le;show ∃w' t',uy n (SR n) v p2 p3 w s.2 t cells p9 iH=_/\_;simp only[uy,hf,aP,hw.mget];unfold vis;by_cases hm:rI aA v∈s.1;simp only[hm,if_true,Option.isSome_some,zC,Option.getD_some];exact⟨w,t,rfl,hw⟩;have hc:=h.cel hr;have pu:aC cells (rI aA v)=some (pK cells (rI aA v)):=by rw[show rI aA v=(((rI aA v).toNat:Nat):Int) by omega,cH];exact hc
  have Wi:=h.ar _ _ hc;have Ab:=Fk hc;have xF:=hs.snoc hr hm (pK cells (rI aA v)).kind;have vC:=xF.le;simp only[zU,zO,zS]at vC;have aZ:=hs.len;simp only[hm,if_false,Option.isSome_none,zD,pu,aP];rw[aH,if_pos (by omega)];have tK:∀a∈(pK cells (rI aA v)).arcs,0<=a.To/\a.To<(N:Int):=fun a ha=>(Wi.ok a ha).2.2;have key:∀(m i:Nat)(bD:V aG)(s':V Int×V aJ)(w:eI Int Int)(t:Nat),(pK cells (rI aA v)).arcs.length-i<m->i<=(pK cells (rI aA v)).arcs.length->bD.length=i->Sn N B s'->s.1.length+1<=s'.1.length->Rep w s'.1->
    ∃w' t',Sc p2 p3 s.2 cells p9 iH (pK cells (rI aA v)) (SR n) m (i:Int) bD w s'.2 t=se s.2 (vS (vis cells aA n) ((pK cells (rI aA v)).arcs.drop i) s' bD).1 w' (vS (vis cells aA n) ((pK cells (rI aA v)).arcs.drop i) s' bD).2.2 t'/\Rep w' (vS (vis cells aA n) ((pK cells (rI aA v)).arcs.drop i) s' bD).2.1/\Sn N B (vS (vis cells aA n) ((pK cells (rI aA v)).arcs.drop i) s' bD).2/\s.1.length+1<=(vS (vis cells aA n) ((pK cells (rI aA v)).arcs.drop i) s' bD).2.1.length:=by
   intro m;induction m with
   |zero=>intro i bD s' w t hm;omega|succ m ih=>intro i bD s' w t hm hi ha CJ BK wB;unfold Sc;by_cases aF:i<(pK cells (rI aA v)).arcs.length;obtain⟨a,hga,tX⟩:=eA aF;have pE:=tK a tX;have hle':=CJ.le;obtain⟨w1,t1,g1,g2⟩:=z5s h hB hB2 hN hD p2 p3 p9 iH n s' a.To w t CJ pE wB (by omega);obtain⟨q1,q2,q3⟩:=bn h hB n s' a.To CJ pE (by omega);simp only[gP aF,zC,cH,hga,aP,g1,iF aF (show(pK cells (rI aA v)).arcs.length<=9223372036854775807 by omega)];rw[aH,if_pos (by omega),aV hga,vS];exact ih (i+1) _ _ w1 t1 (by omega) (by omega) (by simp[ha]) q1 (by omega) g2;rw[bQ aF];simp only[hX aF,zD,vS];exact⟨w,t,rfl,wB,CJ,BK⟩
  obtain⟨w1,t1,g1,g2,g3,g4⟩:=key n 0 [] (s.1++[rI aA v],s.2++[⟨(pK cells (rI aA v)).kind,[]⟩]) (xV (fun a b=>a==b) w (rI aA v) (s.2.length:Int)) (t+1) (by omega) (by omega) rfl xF (by simp) (by rw[aZ];exact hw.snoc hm);rw[zV]at g1;rw[List.drop_zero]at g1 g2 g3 g4;rw[g1];refine⟨w1,t1,?_,g2⟩;obtain⟨x,hx,_⟩:=eA (l:=(vS (vis cells aA n) (pK cells (rI aA v)).arcs (s.1++[rI aA v],s.2++[⟨(pK cells (rI aA v)).kind,[]⟩]) []).2.2) (show s.2.length<_ by have:=g3.len;omega);simp only[se,cH,hx,aP,Nat.zero_add,zZ,Ef,<-aZ,zM,Option.getD_some]
def yJ(n:Nat)(cells:V aT)(aA:Nat->Nat)(v:Int):GFS:=⟨(vis cells aA n ([],[]) v).2.2⟩
variable{n:Nat}
def wj{N D:Nat}{FB TB:Int}{cells:V aT}{aA d:Nat->Nat}(h:kD N D FB TB cells aA d)(hB:tot cells<=20000)(hN:N<=1000)(hD:D<=20000)(hn:30000<=n){v:Int}(hv:0<=v/\v<(N:Int))(p2:V dM)(p3:V eJ)(p9:V bJ)(iH:V d6):
  DZ n v p2 p3 cells p9 iH=some (yJ n cells aA v,true):=by
 have hl:=h.len;obtain⟨w',t',g1,_⟩:=z5s h hB (by omega) hN hD p2 p3 p9 iH n ([],[]) v yM 0 (Sn.nil N 20000) hv Rep.nil (by simp;omega);have e1:decide (v<0)=false:=by simp;omega
 have e2:decide (v>=(cells.length:Int))=false:=by simp;omega
 simp only[DZ,e1,e2,zD,aP,g1,yJ]
def uW(n:Nat)(cells:V aT)(aA:Nat->Nat)(N:Nat):V GFS:=(List.range N).map fun(i:Nat)=>yJ n cells aA (i:Int)
def zcc{N D:Nat}{FB TB:Int}{cells:V aT}{aA d:Nat->Nat}(h:kD N D FB TB cells aA d)(hB:tot cells<=20000)(hN:N<=1000)(hD:D<=20000){n:Nat}(hn:30000<=n)(p2:V dM)(p3:V eJ)(p9:V bJ)(iH:V d6):∀(m i:Nat),N-i<m->i<=N->Rr p2 p3 cells p9 iH n m (i:Int) (uW n cells aA i)=some (uW n cells aA N)
 |0,i,hm,_=>by omega
 |m+1,i,hm,hi=>by
  unfold Rr;have hl:=h.len;simp only[SO,aP,hl];by_cases aF:i<N;have xH:=wj h hB hN hD hn (v:=(i:Int)) (by omega) p2 p3 p9 iH;have nV:(uW n cells aA i).length=i:=by simp[uW]
  have e:uW n cells aA i++[GFS.mk (yJ n cells aA (i:Int)).Nodes]=uW n cells aA (i+1):=by simp[uW,List.range_succ]
  simp only[gP aF,zC,xH,aP,iF aF (show N<=9223372036854775807 by omega)];rw[aH,if_pos (by omega),e];exact zcc h hB hN hD hn p2 p3 p9 iH m (i+1) (by omega) (by omega);have:i=N:=by omega
  subst this;simp only[hX aF,zD,f?]
def z87{N D:Nat}{FB TB:Int}{cells:V aT}{aA d:Nat->Nat}(h:kD N D FB TB cells aA d)(hB:tot cells<=20000)(hN:N<=1000)(hD:D<=20000)(hn:30000<=n)(p2:V dM)(p3:V eJ)(p9:V bJ)(iH:V d6):Qp n p2 p3 cells p9 iH=some (uW n cells aA N):=by have:=zcc h hB hN hD hn p2 p3 p9 iH n 0 (by omega) (by omega);rw[zV]at this;exact this
def zc6{l:V GFS}(hs:∀f∈l,cJ f 1000)(hl:l.length<=1000000){n:Nat}(hn:3000000<=n):∀(m i:Nat),l.length-i<m->i<=l.length->Rp l l n m (i:Int)=some true
 |0,i,hm,_=>by omega
 |m+1,i,hm,hi=>by unfold Rp;by_cases aF:i<l.length;obtain⟨f,hf,uK⟩:=eA aF;have:=xj (hs f uK) (hs f uK) hn;rw[xx.2 rfl]at this;have e:((0:Int)==0)=true:=rfl;simp only[gP aF,zC,cH,hf,aP,this,e,Bool.not_true,zD,iF aF (show l.length<=9223372036854775807 by omega)];exact zc6 hs hl hn m (i+1) (by omega) (by omega);simp only[hX aF,zD,a?]
def zdx{l:V GFS}(hs:∀f∈l,cJ f 1000)(hl:l.length<=1000000)(hn:3000000<=n):uc n l l=some true:=by
 have:=zc6 hs hl hn n 0 (by omega) (by omega);rw[zV]at this;have e:((l.length:Int) != (l.length:Int))=false:=by simp
 simp only[uc,e,zD,this]
structure AZ(h:cZ)(f:GFS):Prop where
 sm:cJ f 12
 ne:0<f.Nodes.length
 nok:∀x∈f.Nodes,(0<=x.Typex/\x.Typex<(h.Types.length:Int))/\wZ f.Nodes.length (h.Feats.length:Int) x.Arcs
 can:nR f 0=f
 gok:wJ f
def zb5{h:cZ}{z:Int}{rc:Int->M Int}{x:aJ}{Q:Prop}(hx:x.Arcs.length<=12)(hr:∃r,rc (IntKind.i64.wrap (z+1))=some r/\(r=0->Q)):∀(m k:Nat),x.Arcs.length-k<m->k<=x.Arcs.length->∃r,Qu h z rc x m (k:Int)=some r/\(r=0->Q/\∀a∈x.Arcs.drop k,a.Feat<(h.Feats.length:Int))
 |0,k,hm,_=>by omega
 |m+1,k,hm,hk=>by unfold Qu;by_cases aF:k<x.Arcs.length;obtain⟨a,ha,_⟩:=eA aF;simp only[gP aF,zC,cH,ha,aP,iF aF (show x.Arcs.length<=9223372036854775807 by omega)];by_cases hf:a.Feat>=(h.Feats.length:Int);simp only[hf,yC,zC];exact⟨_,rfl,fun q=>by cases q⟩;simp only[hf,yB,zD];obtain⟨r,r1,r2⟩:=zb5 hx hr m (k+1) (by omega) (by omega);refine⟨r,r1,fun q=>⟨(r2 q).1,fun b hb=>?_⟩⟩;rw[aV ha]at hb;rcases zI.1 hb with rfl |hb;omega;exact(r2 q).2 b hb;simp only[hX aF,zD,lf,bQ aF];obtain⟨r,r1,r2⟩:=hr;exact⟨r,r1,fun q=>⟨r2 q,fun a ha=>by cases ha⟩⟩
def zb4{h:cZ}{f:GFS}{n:Nat}{r3:GFS×Int}{Q:Prop}(hs:cJ f 12)(hn:12<n)(hk:∃r,Qv f n r3=some r/\(r=0->Q)):∀(m i:Nat),f.Nodes.length-i<m->i<=f.Nodes.length->∃r,YN h f n r3 m (i:Int)=some r/\(r=0->Q/\∀x∈f.Nodes.drop i,x.Typex<(h.Types.length:Int)/\∀a∈x.Arcs,a.Feat<(h.Feats.length:Int))
 |0,i,hm,_=>by omega
 |m+1,i,hm,hi=>by have vA:=hs.nodes;unfold YN;by_cases aF:i<f.Nodes.length;obtain⟨x,hx,fT⟩:=eA aF;have TL:=hs.arcs x fT;simp only[gP aF,zC,cH,hx,aP];by_cases ht:x.Typex>=(h.Types.length:Int);simp only[ht,yC,zC];exact⟨_,rfl,fun q=>by cases q⟩;simp only[ht,yB,zD];have ih:=zb4 (h:=h) hs hn hk m (i+1) (by omega) (by omega);rw[<-iF aF (show f.Nodes.length<=9223372036854775807 by omega)]at ih;obtain⟨r,r1,r2⟩:=zb5 (h:=h) (z:=(i:Int)) (x:=x) TL ih n 0 (by omega) (by omega);rw[zV]at r1;refine⟨r,r1,fun q=>?_⟩;obtain⟨⟨q1,q2⟩,q3⟩:=r2 q;refine⟨q1,fun y hy=>?_⟩;rw[aV hx]at hy;rcases zI.1 hy with rfl |hy;exact⟨by omega,by rw[List.drop_zero]at q3;exact q3⟩;exact q2 y hy;simp only[hX aF,zD,bQ aF];obtain⟨r,r1,r2⟩:=hk;exact⟨r,r1,fun q=>⟨r2 q,fun a ha=>by cases ha⟩⟩
variable{n:Nat}
def Da{f:GFS}(hs:cJ f 12)(h:cZ)(hn:3000000<=n):∃r,Pe n h f=some r/\(r=0->AZ h f):=by
 have h2:=qz1 hs (by omega) (n:=n) (show 2*12+4<=n by omega);by_cases e:I4 f=0;rw[if_pos e]at h2;obtain⟨g1,g2,g3⟩:=qvu.1 e;have iS:sO f 0:=⟨by omega,by omega⟩;have Iz:=hs.canon g3 (r:=0) iS;have q2:=xj (f:=f) (g:=⟨(nR f 0).Nodes⟩) (n:=n) (hs.up (by omega)) (Iz.up (by omega)) hn;have hk:∃r,Qv f n (nR f 0,0)=some r/\(r=0->f=nR f 0):=by simp only[Qv,q2,aP];cases hb:(Dd f ⟨(nR f 0).Nodes⟩==0);exact⟨_,rfl,fun q=>by cases q⟩;exact⟨_,rfl,fun _=>xx.1 (by simpa using hb)⟩
 obtain⟨r,r1,r2⟩:=zb4 (h:=h) hs (by omega) hk n 0 (by have:=hs.nodes;omega) (by omega);rw[zV]at r1;refine⟨r,by simp only[Pe,h2,aP];exact r1,fun q=>?_⟩;obtain⟨q1,q3⟩:=r2 q;rw[List.drop_zero]at q3;have hc:=z4f g3 iS;refine⟨hs,by omega,fun x hx=>⟨⟨(g3 x hx).ty,(q3 x hx).1⟩,?_,fun a ha=>?_⟩,q1.symm,g3⟩;exact hc.up x (q1 ▸ hx);have:=(g3 x hx).arc a ha;exact⟨this.1,(q3 x hx).2 a ha,this.2⟩;rw[if_neg e]at h2;have e':(I4 f != 0)=true:=by simp[e]
 exact⟨I4 f,by simp only[Pe,h2,aP,e',zC],fun q=>absurd q e⟩
def zbg{h:cZ}{l:V GFS}(hl:l.length<=1000000){n:Nat}(hn:3000000<=n):∀(m i:Nat),l.length-i<m->i<=l.length->∃b,Qh h l n m (i:Int)=some b/\(b=true->∀f∈l.drop i,AZ h f)
 |0,i,hm,_=>by omega
 |m+1,i,hm,hi=>by
  unfold Qh;by_cases aF:i<l.length;obtain⟨f,hf,_⟩:=eA aF;obtain⟨b,b1,b2⟩:=z9s f (n:=n) (by omega);simp only[gP aF,zC,cH,hf,aP,b1,iF aF (show l.length<=9223372036854775807 by omega)];rcases b with _|_;simp only[Bool.not_false,zC,aP];exact⟨false,rfl,fun q=>by cases q⟩;obtain⟨r,r1,r2⟩:=Da (b2 rfl) h hn;simp only[Bool.not_true,zD,r1,aP];cases hr:(r != 0)with
  |true=>simp only[zC];exact⟨false,rfl,fun q=>by cases q⟩|false=>simp only[zD];obtain⟨b,g1,g2⟩:=zbg hl hn m (i+1) (by omega) (by omega);refine⟨b,g1,fun q g hg=>?_⟩;rw[aV hf]at hg;rcases zI.1 hg with rfl |hg;exact r2 (by simpa using hr);exact g2 q g hg
  simp only[hX aF,zD,m_,bQ aF];exact⟨true,rfl,fun _ f hf=>by cases hf⟩
def z5a(h:cZ){l:V GFS}(hl:l.length<=1000000)(hn:3000000<=n):∃b,Ot n h l=some b/\(b=true->∀f∈l,AZ h f):=by obtain⟨b,h1,h2⟩:=zbg (h:=h) hl hn n 0 (by omega) (by omega);rw[zV]at h1;exact⟨b,h1,h2⟩
def EX(k:Nat)(a:aG):aG:=⟨a.Feat,a.To+(k:Int)⟩
def lH(k:Nat)(x:aJ):aT:=⟨-1,x.Typex,x.Arcs.map (EX k)⟩
def Km{a:aG}{k:Nat}(h:0<=a.To/\a.To<1000)(hk:k<=1000):IntKind.i64.wrap (a.To+(k:Int))=a.To+(k:Int):=wr (by omega) (by omega)
def z65{p4:V aT}{z:Int}{l24:V aT}{t:Nat}{rc:Int->V aT->Nat->M (Int×V aT×Nat)}{x:aJ}(hx:x.Arcs.length<=12)(hp:p4.length<=1000)(tK:∀a∈x.Arcs,0<=a.To/\a.To<1000):∀(m i:Nat),x.Arcs.length-i<m->i<=x.Arcs.length->Sa p4 z l24 t rc x m (i:Int) ((x.Arcs.take i).map (EX p4.length))=sb z l24 t rc x (x.Arcs.map (EX p4.length))
 |0,i,hm,_=>by omega
 |m+1,i,hm,hi=>by
  unfold Sa;by_cases aF:i<x.Arcs.length;obtain⟨a,ha,tX⟩:=eA aF;have e:(x.Arcs.take i).map (EX p4.length)++[aG.mk a.Feat (a.To+(p4.length:Int))]=(x.Arcs.take (i+1)).map (EX p4.length):=by rw[iY ha,List.map_append];rfl
  simp only[gP aF,zC,cH,ha,aP,Km (tK a tX) hp,iF aF (show x.Arcs.length<=9223372036854775807 by omega),e];rw[aH,if_pos (by simp only[yA,List.length_take];omega)];exact z65 hx hp tK m (i+1) (by omega) (by omega);simp only[hX aF,zD];rw[zW (by omega)]
def z64{f:GFS}(hf:cJ f 12)(tK:∀x∈f.Nodes,∀a∈x.Arcs,0<=a.To/\a.To<1000){p4:V aT}(hp:p4.length<=1000){n:Nat}(hn:20<=n){t0:Nat}:∀(m i:Nat),f.Nodes.length-i<m->i<=f.Nodes.length->SS f p4 n m (i:Int) (p4++(f.Nodes.take i).map (lH p4.length)) (t0+i)=some ((p4.length:Int),p4++f.Nodes.map (lH p4.length),t0+f.Nodes.length)
 |0,i,hm,_=>by omega
 |m+1,i,hm,hi=>by
  have vA:=hf.nodes;unfold SS;by_cases aF:i<f.Nodes.length;obtain⟨x,hx,fT⟩:=eA aF;have h2:=z65 (z:=(i:Int)) (l24:=p4++(f.Nodes.take i).map (lH p4.length)) (t:=t0+i) (rc:=SS f p4 n m) (hf.arcs x fT) hp (tK x fT) n 0 (by have:=hf.arcs x fT;omega) (by omega);rw[zV,List.take_zero,List.map_nil]at h2;have e:p4++(f.Nodes.take i).map (lH p4.length)++[aT.mk (-1) x.Typex (x.Arcs.map (EX p4.length))]=p4++(f.Nodes.take (i+1)).map (lH p4.length):=by rw[iY hx,List.map_append,zT];rfl
  simp only[gP aF,zC,cH,hx,aP,h2,sb,iF aF (show f.Nodes.length<=9223372036854775807 by omega),e];rw[aH,if_pos (by simp only[zU,yA,List.length_take];omega)];exact z64 hf tK hp hn m (i+1) (by omega) (by omega);have e:i=f.Nodes.length:=by omega
  subst e;simp only[hX aF,zD,l?,List.take_length]
def Nf{f:GFS}(hf:cJ f 12)(tK:∀x∈f.Nodes,∀a∈x.Arcs,0<=a.To/\a.To<1000){p4:V aT}(hp:p4.length<=1000)(hn:20<=n)(t0:Nat)(p2:V dM)(p3:V eJ)(p6:V bJ)(p8:V d6):SN n f p2 p3 p4 t0 p6 p8=some ((p4.length:Int),p4++f.Nodes.map (lH p4.length),t0+f.Nodes.length):=by have:=z64 hf tK hp hn (t0:=t0) n 0 (by have:=hf.nodes;omega) (by omega);rw[zV,List.take_zero,List.map_nil,List.append_nil,Nat.add_zero]at this;exact this
def uV(a k:Nat):V Int:=(List.range k).map fun i=>((a+i:Nat):Int)
def zah(a k:Nat):uV a (k+1)=uV a k++[((a+k:Nat):Int)]:=by simp[uV,List.range_succ]
def H'(a k:Nat):(uV a k).length=k:=by simp[uV]
structure Flat(N:Nat)(FB TB:Int)(c:aT):Prop where
 fw:c.forward= -1
 ar:wZ N FB c.arcs
 kd:0<=c.kind/\c.kind<TB
 sm:c.arcs.length<=12
def kD.init{N:Nat}{FB TB:Int}{cells:V aT}(hl:cells.length=N)(h:∀c∈cells,Flat N FB TB c):kD N 0 FB TB cells id (fun _=>0) where
 rok:=⟨fun i hi=>hi,fun i hi=>rfl,fun i hi=>rfl,fun i hi=>zF _⟩
 cok:=⟨fun i c hc _=>(h c (zX hc)).fw,fun i c hc d5=>absurd rfl d5⟩
 len:=hl
 ar i c hc:=(h c (zX hc)).ar
 kd i c hc:=(h c (zX hc)).kd
def qn:∀{cells:V aT},(∀c∈cells,c.arcs.length<=12)->tot cells<=12*cells.length
 |[],_=>by simp[tot]
 |c::l,h=>by have ih:=qn (cells:=l) fun x hx=>h x (List.mem_cons_of_mem _ hx);have:=h c (by simp);simp only[tot,zQ,List.sum_cons,zO]at ih ⊢;omega
def QJ{k:Nat}{l:V aG}(h:lY l):lY (l.map (EX k)):=by unfold lY at*;rw[List.pairwise_map];exact h.imp fun{a b} q=>q
variable{h:cZ}
def AZ.flat{f:GFS}(hf:AZ h f){N k:Nat}(hk:k+f.Nodes.length<=N){c:aT}(hc:c∈f.Nodes.map (lH k)):Flat N (h.Feats.length:Int) (h.Types.length:Int) c:=by obtain⟨x,hx,rfl⟩:=List.mem_map.1 hc;obtain⟨h1,h2⟩:=hf.nok x hx;refine⟨rfl,⟨QJ h2.up,fun a ha=>?_⟩,h1,by simp[lH];exact hf.sm.arcs x hx⟩;obtain⟨b,hb,rfl⟩:=List.mem_map.1 ha;have:=h2.ok b hb;exact⟨this.1,this.2.1,by show 0<=b.To+(k:Int);omega,by show b.To+(k:Int)<_;omega⟩
def AZ.to{f:GFS}(hf:AZ h f):∀x∈f.Nodes,∀a∈x.Arcs,0<=a.To/\a.To<1000:=fun x hx a ha=>by
 have:=(hf.nok x hx).2.ok a ha;have:=hf.sm.nodes;omega
variable{n:Nat}
def je{aA:Nat->Nat}{m i j:Nat}(h:aA i=aA j):hJ aA m n i=hJ aA m n j:=by unfold hJ;rw[h]
def Of{mt:Int->Int->M Int}{i j:Nat}:∀(k:Nat)(W:V (Int×Int))(c:V aT)(aA d:Nat->Nat),aA i=aA j->(mH mt k W c aA d).2.2.1 i=(mH mt k W c aA d).2.2.1 j
 |0,W,c,aA,d,h=>h|k+1,[],c,aA,d,h=>h
 |k+1,p::W,c,aA,d,h=>by unfold mH;by_cases e:aA p.1.toNat=aA p.2.toNat;rw[if_pos e];exact Of k W c aA d h;rw[if_neg e];rcases mt (celN c (aA p.1.toNat)).kind (celN c (aA p.2.toNat)).kind with _|t;exact h;exact Of k _ _ _ _ (je h)
def ip{mt:Int->Int->M Int}{N:Nat}{FB TB:Int}(EA:∀s t r,(0<=s/\s<TB)->(0<=t/\t<TB)->mt s t=some r->0<=r/\r<TB):∀(k:Nat)(W:V (Int×Int))(c:V aT)(aA d:Nat->Nat)(D:Nat),Rnd N D FB TB W c aA d->W.length+tot c<k->(mH mt k W c aA d).1=true->∀p∈W,(mH mt k W c aA d).2.2.1 p.1.toNat=(mH mt k W c aA d).2.2.1 p.2.toNat
 |0,W,c,aA,d,D,h,hk,_=>by omega
 |k+1,[],c,aA,d,D,h,hk,_=>fun p hp=>by cases hp
 |k+1,p::W,c,aA,d,D,h,hk,hb=>by simp only[zO]at hk;have T:=h.two;unfold mH at hb ⊢;by_cases e:aA p.1.toNat=aA p.2.toNat;rw[if_pos e]at hb ⊢;intro q hq;rcases zI.1 hq with rfl |hq;exact Of k W c aA d e;exact ip EA k W c aA d D h.skip (by omega) hb q hq;rw[if_neg e]at hb ⊢;rcases hm:mt (celN c (aA p.1.toNat)).kind (celN c (aA p.2.toNat)).kind with _|t;rw[hm]at hb;cases hb;rw[hm]at hb;have ht:=EA _ _ _ T.km T.kn hm;have hT:=T.tot e t W;intro q hq;rcases zI.1 hq with rfl |hq;refine Of k _ _ _ _ ?_;simp[hJ,e];exact ip EA k _ _ _ _ (D+1) (h.next e ht) (by omega) hb q (List.mem_append_right _ hq)
def zdg{ws:V Nat}(hh:nP h ws)(hn:2000<=n):∀s t r,(0<=s/\s<(ws.length:Int))->(0<=t/\t<(ws.length:Int))->BD n h s t=some r->0<=r/\r<(ws.length:Int):=fun s t r hs ht hr=>by
 rcases qu hh hs ht hn with⟨h1,_⟩|⟨q,h1,_,h3,_⟩;rw[h1]at hr;cases hr;rw[h1]at hr;have:=Option.some.inj hr;subst this;exact h3
def Dl{a b:Nat}(vJ:b&&&a=a)(ha:a<4096)(hb:b<4096)(hl:(bl b).length<=(bl a).length):a=b:=by
 have hs:∀i,a.testBit i=true->b.testBit i=true:=fun i h=>by have:=congrArg (fun z=>z.testBit i) vJ;simp only[Nat.testBit_and,h,Bool.and_true]at this;exact this
 have e1:(List.range 64).filter (fun i=>a.testBit i)=((List.range 64).filter fun i=>b.testBit i).filter fun i=>a.testBit i:=by
  rw[List.filter_filter];refine List.filter_congr fun i _=>?_;rcases h:a.testBit i with _|_
  simp;simp[hs i h]
 simp only[bl,yA]at hl;rw[e1]at hl;have e2:((List.range 64).filter fun i=>b.testBit i).filter (fun i=>a.testBit i)=(List.range 64).filter fun i=>b.testBit i:=(List.filter_sublist).eq_of_length_le hl;refine Nat.eq_of_testBit_eq fun i=>?_;by_cases hi:i<64;cases AG:b.testBit i with
 |false=>rcases hai:a.testBit i with _|_;rfl;rw[hs i hai]at AG;cases AG
 |true=>have:i∈(List.range 64).filter fun i=>b.testBit i:=List.mem_filter.2 ⟨List.mem_range.2 hi,AG⟩;rw[<-e2]at this;exact(List.mem_filter.1 this).2
 rw[Nat.testBit_lt_two_pow (Nat.lt_of_lt_of_le ha (Nat.pow_le_pow_right (n:=2) (by omega) (show 12<=i by omega))),Nat.testBit_lt_two_pow (Nat.lt_of_lt_of_le hb (Nat.pow_le_pow_right (n:=2) (by omega) (show 12<=i by omega)))]
def gz.hr{d:V bL}(hh:gz d n h):∃ws,nP h ws:=by
 obtain⟨l,f,h1,h2,h3⟩:=hh.ex;obtain⟨nm,c0,ws,g1,g2,g3,g4,g5⟩:=h1.cok.ws;have hc:=h1.cok.cod;have e1:(l.map fun x=>cw x.Code).map bt=l.map dN.Code:=by rw[List.map_map];apply List.map_congr_left;intro x hx;obtain⟨w,hw,_⟩:=hc x hx;simp[hw,J0]
 have e2:(l.map fun x=>cw x.Code).Perm ws:=by
  have:=g3.perm.map cw;rw[List.map_map,List.map_map]at this;have e3:ws.map (cw ∘ bt)=ws:=by have:(cw ∘ bt)=id:=funext fun w=>J0 w;rw[this,List.map_id]
  rw[e3]at this;exact this
 refine⟨l.map fun x=>cw x.Code,⟨by rw[h2,e1],fun w hw=>?_,e2.nodup_iff.2 g1.nod,fun a ha b hb d5=>?_,?_,?_,?_,?_⟩⟩;have:=g1.ok w (e2.mem_iff.1 hw);exact⟨this.2.1,by omega⟩;exact e2.mem_iff.2 (g2 a (e2.mem_iff.1 ha) b (e2.mem_iff.1 hb) d5);rw[e2.length_eq];omega;rw[e2.length_eq];omega;have:=congrArg List.length h3;rw[yA]at this;have:=h1.len;omega;intro w hw;obtain⟨y,hy,rfl⟩:=List.mem_map.1 hw;obtain⟨w0,⟨x0,xE,e0⟩,CH⟩:=h1.cok.top;have P4:=g3.srt;rcases hl:l with _|⟨z,l'⟩;rw[hl]at xE;cases xE;simp only[zQ,List.getElem?_cons_zero,Option.getD_some];have Ue:z∈l:=by rw[hl];simp
 obtain⟨wz,ez,lz,_⟩:=hc z Ue;obtain⟨w0',GB,l0,_⟩:=hc x0 xE;have e00:w0=w0':=by rw[<-J0 w0,<-J0 w0',<-e0,<-GB]
 have sL:cnt x0<=cnt z:=by rw[hl]at xE P4;rcases zI.1 xE with rfl |h;exact zF _;exact(List.pairwise_cons.1 P4).1 x0 h
 have hz:=CH z Ue;rw[ez,J0]at hz;have:wz=w0:=Dl hz lz (by rw[e00];exact l0) (by
  have c1:cnt x0=(bl w0).length:=by rw[cnt,e0,J0]
  have c2:cnt z=(bl wz).length:=by rw[cnt,ez,J0]
  omega)
 rw[ez,J0,this];exact CH y (by rw[hl]at hy;rw[hl];exact hy)
def wd(t:dM):Nat:=cw t.Code
def sk:V Nat->D1
 |[]=>true|x::l=>!(l.any fun y=>Nat.beq x y)&&sk l
def okB(h:cZ):D1 :=
 (h.Types.all fun t=>match t.Code with |[z]=>decide (0<z)&&decide (z<4611686018427387904)|_=>false) &&
 sk (h.Types.map wd)&&((h.Types.map wd).all fun a=>(h.Types.map wd).all fun b=>Nat.beq (a&&&b) 0||(h.Types.map wd).any fun c=>Nat.beq (a&&&b) c) &&
 Nat.ble h.Types.length 1000&&Nat.ble 1 h.Types.length&&Nat.ble h.Feats.length 1000&&((h.Types.map wd).all fun w=>Nat.beq ((((h.Types.map wd)[0]?).getD 0)&&&w) w)
def zbt:∀{l:V Nat},sk l=true->l.Nodup
 |[],_=>List.nodup_nil|x::l,h=>by simp only[sk,Bool.and_eq_true,Bool.not_eq_true',List.any_eq_false]at h;refine List.nodup_cons.2 ⟨fun hx=>?_,zbt h.2⟩;have:=h.1 x hx;simp at this
def Z9(hb:okB h=true):∃ws,nP h ws:=by
 simp only[okB,Bool.and_eq_true,List.all_eq_true,Nat.ble_eq]at hb;obtain⟨⟨⟨⟨⟨⟨h1,h2⟩,h3⟩,h4⟩,h5⟩,h6⟩,h7⟩:=hb;have Wb:∀t∈h.Types,t.Code=bt (wd t)/\wd t≠0/\wd t<4611686018427387904:=fun t ht=>by
  have:=h1 t ht;unfold wd;rcases hc:t.Code with _|⟨z,l⟩;rw[hc]at this;simp at this;cases l with
  |cons y l=>rw[hc]at this;simp at this|nil=>rw[hc]at this;simp at this;have e:cw [z]=z.toNat:=rfl;rw[e];exact⟨by rw[tF (by omega)];congr 1;omega,by omega,by omega⟩
 refine⟨h.Types.map wd,⟨?_,fun w hw=>?_,zbt h2,fun a ha b hb d5=>?_,by rw[yA];exact h4,by rw[yA];exact h5,h6,fun w hw=>by have:=h7 w hw;rw[Nat.beq_eq]at this;exact this⟩⟩;rw[List.map_map];exact List.map_congr_left fun t ht=>(Wb t ht).1;obtain⟨t,ht,rfl⟩:=List.mem_map.1 hw;exact(Wb t ht).2;have:=h3 a ha b hb;rw[Bool.or_eq_true,Nat.beq_eq]at this;rcases this with h |h
 exact absurd h d5;obtain⟨c,hc,e⟩:=List.any_eq_true.1 h;rw[Nat.beq_eq]at e;rw[e];exact hc
def preB(m:Nat):a8 (mh (m+200)) (fun d=>a8 (S9 (m+200) d) fun r=>some (okB r.1))=some true:=by kernel_rfl
def Yy(m:Nat):YX (m+200)=some true:=by kernel_rfl
def ex12(h:200<=n):YX n=some true:=by
 have:=Yy (n-200)
 rwa [show n-200+200=n by omega]at this
def Z5(h:200<=n):∃g ws,Rt n=some g/\nP g ws:=by have:=preB (n-200);rw[show n-200+200=n by omega]at this;rcases e1:mh n with _|d;rw[e1]at this;cases this;rw[e1,aP]at this;rcases e2:S9 n d with _|r;rw[e2]at this;cases this;rw[e2,aP]at this;obtain⟨ws,hw⟩:=Z9 (Option.some.inj this);exact⟨⟨r.1.Types,r.1.Feats⟩,ws,by simp only[Rt,e1,e2,aP],hw⟩
def zd1(d:V bL)(hn:5000<=n):∃g ws,Qq n d=some g/\nP g ws:=by
 obtain⟨g,ws,p1,p2⟩:=Z5 (n:=n) (by omega);unfold Qq;by_cases hd:(d.length:Int)<=12;obtain⟨h,e,c1,c2,c3⟩:=z2m (d:=d) (by omega) hn;simp only[hd,yC,zC,c1,aP];by_cases he:e=0;subst he;obtain⟨ws',hw⟩:=(c2 rfl).hr;exact⟨⟨h.Types,h.Feats⟩,ws',rfl,hw⟩;have:(e==0)=false:=by simpa using he
 simp only[this,zD];exact⟨g,ws,p1,p2⟩;simp only[hd,yB,zD];exact⟨g,ws,p1,p2⟩
def xR(aA:Nat->Nat)(a:aG):aG:=⟨a.Feat,rI aA a.To⟩
def ZC(aA:Nat->Nat)(c:aT):aJ:=⟨c.kind,c.arcs.map (xR aA)⟩
def cG(cells:V aT)(aA:Nat->Nat):GFS:=⟨cells.map (ZC aA)⟩
variable{aA:Nat->Nat}
def W0{l:V aG}(h:lY l):lY (l.map (xR aA)):=by unfold lY at*;rw[List.pairwise_map];exact h.imp fun{a b} q=>q
def kD.gok{N D:Nat}{FB TB:Int}{cells:V aT}{d:Nat->Nat}(h:kD N D FB TB cells aA d):wJ (cG cells aA):=fun x hx=>by
 obtain⟨c,hc,rfl⟩:=List.mem_map.1 hx;obtain⟨i,hi⟩:=List.getElem?_of_mem hc;have ha:=h.ar i c hi;refine⟨(h.kd i c hi).1,(W0 ha.up).dis,fun a hm=>?_⟩;obtain⟨b,hb,rfl⟩:=List.mem_map.1 hm;have h1:=ha.ok b hb;have h2:=h.rI (v:=b.To) h1.2.2;simp only[cG,yA,h.len];exact⟨h1.1,h2⟩
def z6i{f:GFS}{o t:V Int}{u:Int}(hu:∀a∈(nd f u).Arcs,a.To∈o):m8 f (o++t) u=m8 f o u:=by simp only[m8,aJ.mk.injEq,true_and];refine List.map_congr_left fun a ha=>?_;simp only[m7,List.idxOf_append,hu a (FA.1 ha),if_true]
def kD.nd{N D:Nat}{FB TB:Int}{cells:V aT}{aA d:Nat->Nat}(h:kD N D FB TB cells aA d){v:Int}(hv:0<=v/\v<(N:Int)):Go.Proofs.nd (cG cells aA) v=ZC aA (pK cells v)/\jI (cG cells aA) v=(pK cells v).arcs.map (xR aA):=by
 have hc:=h.cel hv;have e:Go.Proofs.nd (cG cells aA) v=ZC aA (pK cells v):=by simp only[Go.Proofs.nd,cG,List.getElem?_map,hc,zM,Option.getD_some]
 exact⟨e,by rw[jI,e];exact z7t (W0 (h.ar _ _ hc).up)⟩
def z7l(a b:V aJ)(k:Int)(l:V aG):Ef (a++[⟨k,[]⟩]++b) a.length l=a++[⟨k,l⟩]++b:=by simp[Ef]
def z8a{N D B:Nat}{FB TB:Int}{cells:V aT}{aA d:Nat->Nat}(h:kD N D FB TB cells aA d)(hB:tot cells<=B):∀(k:Nat)(s:V Int×V aJ)(v:Int),Sn N B s->(0<=v/\v<(N:Int))->N-s.1.length<k->rI aA v ∉ s.1->
  vis cells aA k s v=((s.1.length:Int),dfs (cG cells aA) k s.1 (rI aA v),s.2++((dfs (cG cells aA) k s.1 (rI aA v)).drop s.1.length).map (m8 (cG cells aA) (dfs (cG cells aA) k s.1 (rI aA v))))
 |0,s,v,hs,hv,hk,_=>by omega
 |k+1,s,v,hs,hv,hk,hm=>by
  have hg:=h.gok;have hr:=h.rI hv;have xF:=hs.snoc hr hm (pK cells (rI aA v)).kind;have hc:=h.cel hr;have Wi:=h.ar _ _ hc;obtain⟨n1,n2⟩:=h.nd hr;have MZ:(cG cells aA).Nodes.length=N:=by simp[cG,h.len]
  have vC:=xF.le;simp only[zU,zO,zS]at vC;have key:∀(l:V aG),(∀a∈l,0<=a.To/\a.To<(N:Int))->∀(s':V Int×V aJ)(bD:V aG),Sn N B s'->s.1.length+1<=s'.1.length->
    ∃t,(l.map (xR aA)).foldl (lU (dfs (cG cells aA) k)) s'.1=s'.1++t/\(∀a∈l,rI aA a.To∈s'.1++t)/\(∀u∈t,∀a∈(Go.Proofs.nd (cG cells aA) u).Arcs,a.To∈s'.1++t)/\
     vS (vis cells aA k) l s' bD=(bD++l.map (fun a=>m7 (s'.1++t) (xR aA a)),s'.1++t,s'.2++t.map (m8 (cG cells aA) (s'.1++t))):=by
   intro l;induction l with
   |nil=>intro _ s' bD h1 h2;exact⟨[],by simp,by simp,by simp,by simp[vS]⟩|cons a l ih=>
    intro hl s' bD h1 h2;have ha:=hl a (by simp);have hra:=h.rI ha;rw[vS];by_cases iS:rI aA a.To∈s'.1;have e1:vis cells aA k s' a.To=((s'.1.idxOf (rI aA a.To):Int),s'):=by obtain⟨k',rfl⟩:=Nat.exists_eq_add_of_le' (show 1<=k by have:=h1.le;omega);rw[vis,if_pos iS]
    rw[e1];obtain⟨t,q1,q2,q3,q4⟩:=ih (fun b hb=>hl b (List.mem_cons_of_mem _ hb)) s' (bD++[⟨a.Feat,(s'.1.idxOf (rI aA a.To):Int)⟩]) h1 h2;refine⟨t,?_,?_,q3,?_⟩;rw[zQ,List.foldl_cons];have:lU (dfs (cG cells aA) k) s'.1 (xR aA a)=s'.1:=by rw[lU,if_pos (by exact iS)]
    rw[this,q1];intro b hb;rcases zI.1 hb with rfl |hb;exact List.mem_append_left _ iS;exact q2 b hb;rw[q4];have:m7 (s'.1++t) (xR aA a)=⟨a.Feat,(s'.1.idxOf (rI aA a.To):Int)⟩:=by simp only[m7,xR,List.idxOf_append,iS,if_true]
    rw[zQ,this];simp;have e1:=z8a h hB k s' a.To h1 ha (by omega) iS;have Wl:Seen (cG cells aA) s'.1:=⟨h1.nd,fun u hu=>by have:=h1.ing u hu;rw[sO,MZ];exact this⟩;obtain⟨d1,⟨t1,d2⟩,d3,d4⟩:=Mt hg k s'.1 (rI aA a.To) Wl (by rw[sO,MZ];exact hra) iS (by rw[MZ];omega);obtain⟨v1,v2,v3⟩:=bn h hB k s' a.To h1 ha (by omega);rw[e1]at v1 v2 ⊢;simp only at v1 v2 ⊢;rw[d2]at v1 v2 ⊢;have Jk:∀u∈rI aA a.To::t1,∀b∈(Go.Proofs.nd (cG cells aA) u).Arcs,b.To∈s'.1++rI aA a.To::t1:=fun u hu b hb=>by by_cases HI:u∈s'.1;exfalso;have:=d1.nd;rw[d2,List.nodup_append]at this;exact this.2.2 u HI u hu rfl;have:=d3 u (by rw[d2];exact List.mem_append_right _ hu) HI b hb;rw[d2]at this;exact this
    rw[List.drop_left]at v1 ⊢;obtain⟨t,q1,q2,q3,q4⟩:=ih (fun b hb=>hl b (List.mem_cons_of_mem _ hb)) _ (bD++[⟨a.Feat,(s'.1.length:Int)⟩]) v1 (by simp only[zU,zO]at v2 ⊢;omega);simp only at q1 q2 q3 q4;refine⟨rI aA a.To::t1++t,?_,?_,?_,?_⟩;rw[zQ,List.foldl_cons];have:lU (dfs (cG cells aA) k) s'.1 (xR aA a)=s'.1++rI aA a.To::t1:=by rw[lU,if_neg (by exact iS)];exact d2
    rw[this,q1];simp;intro b hb;rcases zI.1 hb with rfl |hb;simp;have:=q2 b hb;simpa using this;intro u hu b hb;rcases yD.1 hu with hu |hu;have:=Jk u hu b hb;rw[zT]at*;simp only[yD]at this ⊢;rcases this with h |h;exact .inl h;exact .inr (.inl h);have:=q3 u hu b hb;simpa using this;rw[q4];have e2:s'.1++(rI aA a.To::t1++t)=s'.1++rI aA a.To::t1++t:=by simp
    have e3:m7 (s'.1++rI aA a.To::t1++t) (xR aA a)=⟨a.Feat,(s'.1.length:Int)⟩:=by simp only[m7,xR,List.idxOf_append,yD,iS,zI,true_or,or_true,if_true,if_false,List.idxOf_cons_self];simp
    have e4:(rI aA a.To::t1).map (m8 (cG cells aA) (s'.1++rI aA a.To::t1++t))=(rI aA a.To::t1).map (m8 (cG cells aA) (s'.1++rI aA a.To::t1)):=List.map_congr_left fun u hu=>z6i (Jk u hu);rw[e2];refine Prod.ext ?_ (Prod.ext rfl ?_);show bD++[_]++_=bD++List.map _ (a::l);rw[zQ,e3,zT];rfl;show s'.2++_++_=s'.2++List.map _ (rI aA a.To::t1++t);rw[List.map_append,e4,zT]
  obtain⟨t,q1,q2,q3,q4⟩:=key _ (fun a ha=>(Wi.ok a ha).2.2) (s.1++[rI aA v],s.2++[⟨(pK cells (rI aA v)).kind,[]⟩]) [] xF (by simp);simp only at q1 q2 q3 q4;have hd:dfs (cG cells aA) (k+1) s.1 (rI aA v)=s.1++rI aA v::t:=by rw[dfs,n2,q1];simp
  rw[hd,List.drop_left,vis,if_neg hm];simp only[q4];have aZ:=hs.len;rw[<-aZ,z7l,List.nil_append];have e1:s.1++rI aA v::t=s.1++[rI aA v]++t:=by simp
  rw[e1];have e2:m8 (cG cells aA) (s.1++[rI aA v]++t) (rI aA v)=⟨(pK cells (rI aA v)).kind,(pK cells (rI aA v)).arcs.map fun a=>m7 (s.1++[rI aA v]++t) (xR aA a)⟩:=by rw[m8,n1,n2,List.map_map];rfl
  rw[zQ,e2];simp
def No{N D:Nat}{FB TB:Int}{cells:V aT}{d:Nat->Nat}(h:kD N D FB TB cells aA d){n:Nat}(hn:N<n){v:Int}(hv:0<=v/\v<(N:Int)):yJ n cells aA v=nR (cG cells aA) (rI aA v):=by
 have MZ:(cG cells aA).Nodes.length=N:=by simp[cG,h.len]
 have hr:=h.rI hv;have:=z8a h (zF _) n ([],[]) v (Sn.nil N _) hv (by simp;omega) (by simp);obtain⟨o1,o2⟩:=XT h.gok (r:=rI aA v) (by rw[sO,MZ];exact hr);rw[yJ,this];simp only[zS,List.drop_zero,List.nil_append,o2 n (by omega),nR]
def z86:∀{a b:V aG},lY a->lY b->(∀x,x∈a↔x∈b)->a=b
 |[],[],_,_,_=>rfl|[],y::b,_,_,h=>by have:=(h y).2 (by simp);cases this
 |x::a,[],_,_,h=>by have:=(h x).1 (by simp);cases this
 |x::a,y::b,ha,hb,h=>by
  have qP:=List.pairwise_cons.1 ha;have cP:=List.pairwise_cons.1 hb;have e:x=y:=by rcases zI.1 ((h x).1 (by simp))with e |e;exact e;rcases zI.1 ((h y).2 (by simp))with e' |e';exact e'.symm;have:=qP.1 y e';have:=cP.1 x e;omega
  subst e;rw[z86 qP.2 cP.2 fun z=>⟨fun hz=>by
   rcases zI.1 ((h z).1 (List.mem_cons_of_mem _ hz))with e |e;subst e;have:=qP.1 z hz;omega;exact e,fun hz=>by
   rcases zI.1 ((h z).2 (List.mem_cons_of_mem _ hz))with e |e;subst e;have:=cP.1 z hz;omega;exact e⟩]
structure QG(ws:V Nat)(L:V aJ)(r:Nat->Nat)(g:GFS):Prop where
 len:g.Nodes.length=L.length
 rt:∀i,i<L.length->r i<L.length/\r (r i)=r i
 kd:∀i x,g.Nodes[i]? = some x->r i=i->(0<=x.Typex/\x.Typex<(ws.length:Int))/\∀k,(f0 ws x.Typex).testBit k=true↔∀j c,L[j]? = some c->r j=i->(f0 ws c.Typex).testBit k=true
 ds:∀i x,g.Nodes[i]? = some x->r i=i->mN x.Arcs
 cov:∀j c a,L[j]? = some c->a∈c.Arcs->∃x b,g.Nodes[r j]? = some x/\b∈x.Arcs/\b.Feat=a.Feat/\b.To=(r a.To.toNat:Int)
 snd:∀i x b,g.Nodes[i]? = some x->r i=i->b∈x.Arcs->∃j c a,L[j]? = some c/\r j=i/\a∈c.Arcs/\b.Feat=a.Feat/\b.To=(r a.To.toNat:Int)
variable{ws:V Nat}
def zcs(hn:ws.Nodup){s t:Int}(hs:0<=s/\s<(ws.length:Int))(ht:0<=t/\t<(ws.length:Int))(h:f0 ws s=f0 ws t):s=t:=by have h1:=M8 hs;have h2:=M8 ht;rw[<-h]at h2;obtain⟨a1,b1⟩:=zG.1 h1;obtain⟨a2,b2⟩:=zG.1 h2;have:=(List.getElem_inj (h₀:=a1) (h₁:=a2) hn).1 (by rw[b1,b2]);omega
def InR(N:Nat)(r:Nat->Nat)(v:Int):Prop:=∃i:Nat,v=(i:Int)/\i<N/\r i=i
def QG.sim(hn:ws.Nodup){L:V aJ}(hL:∀(j:Nat)(c:aJ)(a:aG),L[j]? = some c->a∈c.Arcs->a.To.toNat<L.length){r r':Nat->Nat}{g g':GFS}(h:QG ws L r g)(h':QG ws L r' g')(he:∀i j,i<L.length->j<L.length->(r i=r j↔r' i=r' j)):
  rQ g g' (fun v=>(r' v.toNat:Int)) (InR L.length r):=by
 have node:∀{i:Nat},i<L.length->∃x,g.Nodes[i]? = some x/\nd g (i:Int)=x:=fun{i} hi=>by
  have:i<g.Nodes.length:=by rw[h.len];exact hi
  exact⟨_,List.getElem?_eq_getElem this,by simp[nd,this]⟩
 have node':∀{i:Nat},i<L.length->∃x,g'.Nodes[i]? = some x/\nd g' (i:Int)=x:=fun{i} hi=>by
  have:i<g'.Nodes.length:=by rw[h'.len];exact hi
  exact⟨_,List.getElem?_eq_getElem this,by simp[nd,this]⟩
 have memb:∀{j:Nat}{c:aJ},L[j]? = some c->j<L.length:=fun hj=>(zG.1 hj).1;have mem_iff:∀{i j:Nat},i<L.length->j<L.length->r i=i->(r j=i↔r' j=r' i):=fun{i j} hi hj hr=>by rw[<-he j i hj hi,hr]
 refine⟨?_,?_,?_,?_⟩;rintro v ⟨i,rfl,hi,hr⟩ a ha;rw[FA]at ha;obtain⟨x,hx,e⟩:=node hi;rw[e]at ha;obtain⟨j,c,b,q1,q2,q3,q4,q5⟩:=h.snd i x a hx hr ha;have:=h.rt _ (hL j c b q1 q3);exact⟨r b.To.toNat,q5,this.1,this.2⟩;rintro u v ⟨i,rfl,hi,hr⟩ ⟨j,rfl,hj,hs⟩ e;simp only[zZ]at e;have:=(he i j hi hj).2 (by omega);omega;rintro v ⟨i,rfl,hi,hr⟩;obtain⟨x,hx,e⟩:=node hi;have kY:=h'.rt i hi;obtain⟨y,hy,e'⟩:=node' kY.1;simp only[zZ];rw[e,e'];obtain⟨k1,k2⟩:=h.kd i x hx hr;obtain⟨k3,k4⟩:=h'.kd _ y hy kY.2;refine zcs hn k3 k1 (Nat.eq_of_testBit_eq fun k=>?_);rw[Bool.eq_iff_iff,k2,k4];exact⟨fun q j c hj Up=>q j c hj ((mem_iff hi (memb hj) hr).1 Up),fun q j c hj Up=>q j c hj ((mem_iff hi (memb hj) hr).2 Up)⟩;rintro v ⟨i,rfl,hi,hr⟩;obtain⟨x,hx,e⟩:=node hi;have kY:=h'.rt i hi;obtain⟨y,hy,e'⟩:=node' kY.1;simp only[zZ];have up1:lY (jI g' ((r' i:Nat):Int)):=by rw[jI,e'];exact Fl (h'.ds _ y hy kY.2)
 have up2:lY ((jI g (i:Int)).map fun a=>(⟨a.Feat,(r' a.To.toNat:Int)⟩:aG)):=by
  have:lY (jI g (i:Int)):=by rw[jI,e];exact Fl (h.ds _ x hx hr)
  unfold lY at*;rw[List.pairwise_map];exact this.imp fun{a b} q=>q
 refine z86 up1 up2 fun b=>?_;rw[FA,e',List.mem_map];constructor;intro hb;obtain⟨j,c,a,q1,q2,q3,q4,q5⟩:=h'.snd _ y b hy kY.2 hb;have Jf:=(mem_iff hi (memb q1) hr).2 q2;obtain⟨x2,b2,p1,p2,p3,p4⟩:=h.cov j c a q1 q3;rw[Jf,hx]at p1;cases p1;refine⟨b2,by rw[FA,e];exact p2,?_⟩;have ht:=hL j c a q1 q3;have h1:=h.rt _ ht;have:r' (r a.To.toNat)=r' a.To.toNat:=(he _ _ h1.1 ht).1 h1.2;rw[p4,zZ,this,<-q5,p3,<-q4];rintro⟨b2,uN,rfl⟩;rw[FA,e]at uN;obtain⟨j,c,a,q1,q2,q3,q4,q5⟩:=h.snd i x b2 hx hr uN;have Jf:=(mem_iff hi (memb q1) hr).1 q2;obtain⟨y2,b3,p1,p2,p3,p4⟩:=h'.cov j c a q1 q3;rw[Jf,hy]at p1;cases p1;have ht:=hL j c a q1 q3;have h1:=h.rt _ ht;have e4:r' (r a.To.toNat)=r' a.To.toNat:=(he _ _ h1.1 ht).1 h1.2;have:(⟨b2.Feat,(r' b2.To.toNat:Int)⟩:aG)=b3:=by cases b3;simp only[aG.mk.injEq];simp only at p3 p4;rw[q5,zZ,e4];exact⟨by rw[q4,p3],p4.symm⟩
 rw[this];exact p2
def QG.read(hn:ws.Nodup){L:V aJ}(hL:∀(j:Nat)(c:aJ)(a:aG),L[j]? = some c->a∈c.Arcs->a.To.toNat<L.length){r r':Nat->Nat}{g g':GFS}(h:QG ws L r g)(h':QG ws L r' g')(hg:wJ g)(PB:wJ g')(he:∀i j,i<L.length->j<L.length->(r i=r j↔r' i=r' j)){i:Nat}(hi:i<L.length):
  nR g' ((r' i:Nat):Int)=nR g ((r i:Nat):Int):=by have h1:=h.rt i hi;have h2:=h'.rt i hi;have e:r' (r i)=r' i:=(he _ _ h1.1 hi).1 h1.2;have:=(h.sim hn hL h' he).canon hg PB (r:=((r i:Nat):Int)) ⟨by omega,by rw[h.len];omega⟩ ⟨r i,rfl,h1.1,h1.2⟩ (by simp only[zZ,e];exact⟨by omega,by rw[h'.len];omega⟩);simp only[zZ,e]at this;exact this.2
def Jw(N:Nat)(r:Nat->Nat)(W:V (Int×Int))(x y:Nat):Prop:=∀q:Nat->Nat,(∀i j,i<N->j<N->r i=r j->q i=q j)->(∀p∈W,q p.1.toNat=q p.2.toNat)->q x=q y
structure BN(N:Nat)(ws:V Nat)(L:V aJ):Prop where
 len:L.length=N
 ar:∀(j:Nat)(c:aJ)(a:aG),L[j]? = some c->a∈c.Arcs->0<=a.To/\a.To<(N:Int)
structure TC(ws:V Nat)(N:Nat)(L:V aJ)(W:V (Int×Int))(cells:V aT)(aA:Nat->Nat):Prop where
 cov:∀(j:Nat)(c:aJ)(a:aG),L[j]? = some c->a∈c.Arcs->∃b∈(celN cells (aA j)).arcs,b.Feat=a.Feat/\Jw N aA W b.To.toNat a.To.toNat
 snd:∀(i:Nat)(b:aG),i<N->aA i=i->b∈(celN cells i).arcs->∃(j:Nat)(c:aJ),L[j]? = some c/\aA j=i/\b∈c.Arcs
 kd:∀(i:Nat),i<N->aA i=i->∀k:Nat,(f0 ws (celN cells i).kind).testBit k=true↔∀(j:Nat)(c:aJ),L[j]? = some c->aA j=i->(f0 ws c.Typex).testBit k=true
def I6(L:V aJ)(q:Nat->Nat):Prop:=∀(i j:Nat)(c e:aJ)(a b:aG),L[i]? = some c->L[j]? = some e->q i=q j->a∈c.Arcs->b∈e.Arcs->a.Feat=b.Feat->q a.To.toNat=q b.To.toNat
def VL(ws:V Nat)(L:V aJ)(q:Nat->Nat):Prop:=∃i,i<L.length/\∀k:Nat,∃(j:Nat)(c:aJ),L[j]? = some c/\q j=q i/\(f0 ws c.Typex).testBit k=false
structure VG(N:Nat)(W:V (Int×Int))(aA q:Nat->Nat):Prop where
 r:∀i j,i<N->j<N->aA i=aA j->q i=q j
 w:∀p∈W,q p.1.toNat=q p.2.toNat
variable{c:V aT}
variable{m:Nat}
variable{n:Nat}
def qzq(hm:m<c.length)(hn:n<c.length)(wE:m≠n)(t:Int)(o:V aG)(i:Nat):
  celN (xU c m n t o) i=if i=n then⟨(m:Int),0,[]⟩else if i=m then⟨-1,t,o⟩else celN c i:=by simp only[celN,xU,List.getElem?_set,List.length_set];by_cases e:i=n;subst e;simp[hn];rw[if_neg (fun q=>e q.symm),if_neg e];by_cases e2:i=m;subst e2;simp[hm];rw[if_neg (fun q=>e2 q.symm),if_neg e2]
variable{ws:V Nat}
variable{N:Nat}
variable{L:V aJ}
variable{W:V (Int×Int)}
variable{p:Int×Int}
variable{aA:Nat->Nat}
def TC.skip(h:TC ws N L (p::W) c aA)(hp:Mw N p)(e:aA p.1.toNat=aA p.2.toNat):TC ws N L W c aA where
 cov j x a hj ha:=by obtain⟨b,h1,h2,h3⟩:=h.cov j x a hj ha;refine⟨b,h1,h2,fun q q1 q2=>h3 q q1 fun z hz=>?_⟩;rcases zI.1 hz with rfl |hz;exact q1 _ _ (by have:=hp.1;omega) (by have:=hp.2;omega) e;exact q2 z hz
 snd:=h.snd
 kd:=h.kd
structure Mg(N:Nat)(p:Int×Int)(c:V aT)(aA:Nat->Nat)(m n:Nat):Prop where
 len:c.length=N
 hm:m<N
 hn:n<N
 em:aA m=m
 en:aA n=n
 ne:m≠n
 lt:∀i,i<N->aA i<N
 idem:∀i,i<N->aA (aA i)=aA i
 pi:Mw N p
 pp:(aA p.1.toNat=m/\aA p.2.toNat=n)\/(aA p.1.toNat=n/\aA p.2.toNat=m)
 dm:mN (celN c m).arcs
variable{D:Nat}
variable{FB:Int}
variable{d:Nat->Nat}
def Rnd.mg{TB:Int}(hr:Rnd N D FB TB (p::W) c aA d)(d5:aA p.1.toNat≠aA p.2.toNat):Mg N p c aA (aA p.1.toNat) (aA p.2.toNat):=
 have T:=hr.two
 ⟨hr.hp.len,T.hm,T.hn,T.em,T.en,d5,hr.hp.rok.lt,hr.hp.rok.idem,hr.wi p (by simp),.inl ⟨rfl,rfl⟩,T.am.up.dis⟩
def TC.mrg(hL:BN N ws L){W':V (Int×Int)}(T:Mg N p c aA m n)(h:TC ws N L (p::W) c aA){t:Int}{o:V aG}
  (ht:f0 ws t=f0 ws (celN c m).kind&&&f0 ws (celN c n).kind) (hM:o.Perm ((celN c m).arcs++nN (celN c m).arcs (celN c n).arcs)) (w1:∀z∈prs (celN c m).arcs (celN c n).arcs,z∈W') (w2:∀z∈W,z∈W'):
  TC ws N L W' (xU c m n t o) (hJ aA m n):=by
 obtain⟨HJ,BJ⟩:=T.pi;have d5:=T.ne;have aZ:=T.len;have hmc:m<c.length:=by have:=T.hm;omega
 have vB:n<c.length:=by have:=T.hn;omega
 have AE:=qzq hmc vB d5 t o;have ida:∀j,j<N->aA (aA j)=aA j:=T.idem;have jlt:∀{j:Nat}{x:aJ},L[j]? = some x->j<N:=fun hj=>by have:=(zG.1 hj).1;rw[hL.len]at this;exact this
 have mono:∀i j,aA i=aA j->hJ aA m n i=hJ aA m n j:=fun i j e=>je e;have lnk:∀{x y:Nat},Jw N aA (p::W) x y->Jw N (hJ aA m n) W' x y:=fun{x y} hl q q1 q2=>by
  refine hl q (fun i j hi hj e=>q1 i j hi hj (mono i j e)) fun z hz=>?_;rcases zI.1 hz with rfl |hz
  refine q1 _ _ (by omega) (by omega) ?_;unfold hJ;rcases T.pp with⟨e1,e2⟩|⟨e1,e2⟩;rw[e1,e2,if_neg d5,if_pos rfl];rw[e1,e2,if_neg d5,if_pos rfl];exact q2 z (w2 z hz)
 refine⟨fun j x a hj ha=>?_,fun i b hi pD hb=>?_,fun i hi pD k=>?_⟩;obtain⟨b,h1,h2,h3⟩:=h.cov j x a hj ha;by_cases en:aA j=n;have e1:hJ aA m n j=m:=by unfold hJ;rw[if_pos en]
 rw[e1,AE,if_neg d5,if_pos rfl];rw[en]at h1;show ∃b∈o,_;by_cases hf:xW (celN c m).arcs b.Feat=true;obtain⟨z,hz,ez⟩:=MH.1 hf;refine⟨z,hM.mem_iff.2 (List.mem_append_left _ hz),by omega,fun q q1 q2=>?_⟩;have hpz:(z.To,b.To)∈prs (celN c m).arcs (celN c n).arcs:=List.mem_filterMap.2 ⟨b,h1,by rw[z58 T.dm hz ez];rfl⟩;have:=q2 (z.To,b.To) (w1 _ hpz);rw[this];exact lnk h3 q q1 q2;refine⟨b,hM.mem_iff.2 (List.mem_append_right _ (List.mem_filter.2 ⟨h1,by simpa using hf⟩)),h2,lnk h3⟩;have e1:hJ aA m n j=aA j:=by unfold hJ;rw[if_neg en]
 rw[e1,AE,if_neg en];by_cases em:aA j=m;rw[if_pos em];rw[em]at h1;exact⟨b,hM.mem_iff.2 (List.mem_append_left _ h1),h2,lnk h3⟩;rw[if_neg em];exact⟨b,h1,h2,lnk h3⟩;by_cases ein:i=n;subst ein
 rw[AE,if_pos rfl]at hb;cases hb;rw[AE,if_neg ein]at hb;by_cases eim:i=m;subst eim;rw[if_pos rfl]at hb;rcases yD.1 (hM.mem_iff.1 hb)with hb |hb;obtain⟨j,x,q1,q2,q3⟩:=h.snd _ b T.hm T.em hb;exact⟨j,x,q1,by unfold hJ;rw[q2,if_neg d5],q3⟩;obtain⟨j,x,q1,q2,q3⟩:=h.snd _ b T.hn T.en (List.mem_filter.1 hb).1;exact⟨j,x,q1,by unfold hJ;rw[q2,if_pos rfl],q3⟩;rw[if_neg eim]at hb;have Af:aA i=i:=by unfold hJ at pD;split at pD;exact absurd pD.symm eim;exact pD
 obtain⟨j,x,q1,q2,q3⟩:=h.snd i b hi Af hb;exact⟨j,x,q1,by unfold hJ;rw[q2,if_neg ein],q3⟩;by_cases ein:i=n;subst ein
 unfold hJ at pD;rw[T.en,if_pos rfl]at pD;exact absurd pD d5;rw[AE,if_neg ein];by_cases eim:i=m;subst eim;rw[if_pos rfl];show(f0 ws t).testBit k=true↔_;rw[ht,Nat.testBit_and,Bool.and_eq_true,h.kd _ T.hm T.em,h.kd _ T.hn T.en];constructor;rintro⟨g1,g2⟩ j x hj CL;unfold hJ at CL;by_cases e:aA j=n;exact g2 j x hj e;rw[if_neg e]at CL;exact g1 j x hj CL;intro g;exact⟨fun j x hj e=>g j x hj (by unfold hJ;rw[e,if_neg d5]),fun j x hj e=>g j x hj (by unfold hJ;rw[if_pos e])⟩;rw[if_neg eim];have Af:aA i=i:=by unfold hJ at pD;split at pD;exact absurd pD.symm eim;exact pD
 rw[h.kd i hi Af];constructor;intro g j x hj e;refine g j x hj ?_;unfold hJ at e;split at e;exact absurd e.symm eim;exact e;intro g j x hj e;exact g j x hj (by unfold hJ;rw[e,if_neg ein])
def VG.mrg(hL:BN N ws L){W':V (Int×Int)}{q:Nat->Nat}(T:Mg N p c aA m n)(h:TC ws N L (p::W) c aA)(hq:I6 L q)(hu:VG N (p::W) aA q)(w:∀z∈W',z∈prs (celN c m).arcs (celN c n).arcs\/z∈W):
  q m=q n/\VG N W' (hJ aA m n) q:=by
 obtain⟨HJ,BJ⟩:=T.pi;have Uu:=hu.w p (by simp);have e3:q m=q n:=by rcases T.pp with⟨e1,e2⟩|⟨e1,e2⟩;have a1:q m=q p.1.toNat:=hu.r _ _ T.hm (by omega) (by rw[T.em,e1]);have a2:q n=q p.2.toNat:=hu.r _ _ T.hn (by omega) (by rw[T.en,e2]);rw[a1,a2,Uu];have a1:q n=q p.1.toNat:=hu.r _ _ T.hn (by omega) (by rw[T.en,e1]);have a2:q m=q p.2.toNat:=hu.r _ _ T.hm (by omega) (by rw[T.em,e2]);rw[a1,a2,Uu]
 refine⟨e3,fun i j hi hj e=>?_,fun z hz=>?_⟩
 ·have ri:q (aA i)=q i:=hu.r _ _ (T.lt i hi) hi (T.idem i hi);have rj:q (aA j)=q j:=hu.r _ _ (T.lt j hj) hj (T.idem j hj);rw[<-ri,<-rj];unfold hJ at e;split at e
  ·next h1=>
   split at e
   ·next h2=>rw[h1,h2]
   ·next h2=>rw[h1,<-e3,e]
  ·next h1=>
   split at e
   ·next h2=>rw[h2,<-e3,e]
   ·next h2=>rw[e]
 rcases w z hz with hz |hz;obtain⟨x,hx,y,hy,hf,rfl⟩:=S' hz;obtain⟨j,xc,q1,q2,q3⟩:=h.snd _ x T.hm T.em hx;obtain⟨j',yc,r1,r2,r3⟩:=h.snd _ y T.hn T.en hy;have jl:=(zG.1 q1).1;have jl':=(zG.1 r1).1;rw[hL.len]at jl jl';refine hq j j' xc yc x y q1 r1 ?_ q3 r3 hf;have a1:q j=q m:=hu.r _ _ jl T.hm (by rw[T.em,q2]);have a2:q j'=q n:=hu.r _ _ jl' T.hn (by rw[T.en,r2]);rw[a1,a2,e3];exact hu.w z (List.mem_cons_of_mem _ hz)
structure Zx(ws:V Nat)(mt:Int->Int->M Int):Prop where
 no:∀s t,(0<=s/\s<(ws.length:Int))->(0<=t/\t<(ws.length:Int))->mt s t=none->f0 ws s&&&f0 ws t=0
 yes:∀s t r,(0<=s/\s<(ws.length:Int))->(0<=t/\t<(ws.length:Int))->mt s t=some r->(0<=r/\r<(ws.length:Int))/\f0 ws r=f0 ws s&&&f0 ws t
def av{ws:V Nat}{mt:Int->Int->M Int}(EA:Zx ws mt){N:Nat}{FB:Int}{L:V aJ}(hL:BN N ws L):∀(k:Nat)(W:V (Int×Int))(c:V aT)(aA d:Nat->Nat)(D:Nat),Rnd N D FB ws.length W c aA d->TC ws N L W c aA->W.length+tot c<k->
  ((mH mt k W c aA d).1=true->TC ws N L [] (mH mt k W c aA d).2.1 (mH mt k W c aA d).2.2.1)/\
  ∀q,I6 L q->VG N W aA q->((mH mt k W c aA d).1=true->VG N [] (mH mt k W c aA d).2.2.1 q)/\((mH mt k W c aA d).1=false->VL ws L q)
 |0,W,c,aA,d,D,hr,h,hk=>by omega
 |k+1,[],c,aA,d,D,hr,h,hk=>⟨fun _=>h,fun q _ hu=>⟨fun _=>hu,fun e=>(by cases e)⟩⟩|k+1,p::W,c,aA,d,D,hr,h,hk=>by
  simp only[zO]at hk;unfold mH;by_cases e:aA p.1.toNat=aA p.2.toNat;rw[if_pos e];obtain⟨g1,g2⟩:=av EA hL k W c aA d D hr.skip (h.skip (hr.wi p (by simp)) e) (by omega);exact⟨g1,fun q hq hu=>g2 q hq ⟨hu.r,fun z hz=>hu.w z (List.mem_cons_of_mem _ hz)⟩⟩;rw[if_neg e];have T:=hr.two;cases hm:mt (celN c (aA p.1.toNat)).kind (celN c (aA p.2.toNat)).kind with
  |none=>
   refine⟨fun q=>(by cases q),fun q hq hu=>⟨fun q=>(by cases q),fun _=>?_⟩⟩;obtain⟨e3,_⟩:=hu.mrg hL (hr.mg e) h hq (W':=W) fun z hz=>.inr hz;have h0:=EA.no _ _ T.km T.kn hm;refine⟨aA p.1.toNat,by rw[hL.len];exact T.hm,fun b=>?_⟩;have hb:(f0 ws (celN c (aA p.1.toNat)).kind).testBit b=false\/(f0 ws (celN c (aA p.2.toNat)).kind).testBit b=false:=by have:=congrArg (fun x=>x.testBit b) h0;simp only[Nat.testBit_and,Nat.zero_testBit,Bool.and_eq_false_iff]at this;exact this
   have find:∀i,i<N->aA i=i->(f0 ws (celN c i).kind).testBit b=false->∃(j:Nat)(x:aJ),L[j]? = some x/\aA j=i/\(f0 ws x.Typex).testBit b=false:=fun i hi pD hf=>by
    refine Classical.byContradiction fun fD=>?_;have:=(h.kd i hi pD b).2 fun j x hj CL=>by rcases hx:(f0 ws x.Typex).testBit b with _|_;exact absurd ⟨j,x,hj,CL,hx⟩ fD;rfl
    rw[hf]at this;cases this
   rcases hb with hb |hb;obtain⟨j,x,q1,q2,q3⟩:=find _ T.hm T.em hb;have jl:=(zG.1 q1).1;rw[hL.len]at jl;exact⟨j,x,q1,hu.r _ _ jl T.hm (by rw[T.em,q2]),q3⟩;obtain⟨j,x,q1,q2,q3⟩:=find _ T.hn T.en hb;have jl:=(zG.1 q1).1;rw[hL.len]at jl;exact⟨j,x,q1,by rw[e3];exact hu.r _ _ jl T.hn (by rw[T.en,q2]),q3⟩
  |some t=>obtain⟨ht,hc⟩:=EA.yes _ _ _ T.km T.kn hm;have hT:=T.tot e t W;obtain⟨g1,g2⟩:=av EA hL k _ _ _ (GL aA d (aA p.2.toNat)) (D+1) (hr.next e ht) (h.mrg hL (hr.mg e) hc (Y5 _ _ T.am.up T.an.up).pm (fun z hz=>List.mem_append_left _ (List.mem_reverse.2 hz)) fun z hz=>List.mem_append_right _ hz) (by omega);exact⟨g1,fun q hq hu=>g2 q hq (hu.mrg hL (hr.mg e) h hq fun z hz=>by rcases yD.1 hz with hz |hz;exact .inl (List.mem_reverse.1 hz);exact .inr hz).2⟩
def TC.qg(hL:BN N ws L)(hp:kD N D FB ws.length c aA d)(h:TC ws N L [] c aA):QG ws L aA (cG c aA):=by
 have hN:=hL.len;have eZ:=hp.len;have node:∀{i:Nat}{x:aJ},(cG c aA).Nodes[i]? = some x->i<N/\c[i]? = some (celN c i)/\x=ZC aA (celN c i):=fun{i x} hx=>by
  simp only[cG,List.getElem?_map]at hx;rcases hc:c[i]? with _|y;rw[hc]at hx;cases hx;have hi:i<N:=by have:=(zG.1 hc).1;omega
  have:=hp.celN hi;rw[hc]at this;cases this;rw[hc]at hx;exact⟨hi,rfl,(Option.some.inj hx).symm⟩
 refine⟨by simp[cG,eZ,hN],fun i hi=>?_,fun i x hx hr=>?_,fun i x hx hr=>?_,fun j y a hj ha=>?_,fun i x b hx hr hb=>?_⟩;rw[hN]at hi ⊢;exact⟨hp.rok.lt i hi,hp.rok.idem i hi⟩;obtain⟨hi,hc,rfl⟩:=node hx;exact⟨hp.kd i _ hc,h.kd i hi hr⟩;obtain⟨hi,hc,rfl⟩:=node hx;exact(W0 (hp.ar i _ hc).up).dis;obtain⟨b,h1,h2,h3⟩:=h.cov j y a hj ha;have jl:=(zG.1 hj).1;rw[hN]at jl;have hc:=hp.celN (hp.rok.lt j jl);refine⟨ZC aA (celN c (aA j)),xR aA b,by simp only[cG,List.getElem?_map,hc,zM],List.mem_map_of_mem h1,h2,?_⟩;simp only[xR,rI];rw[h3 aA (fun _ _ _ _ e=>e) (fun _ hz=>by cases hz)];obtain⟨hi,hc,rfl⟩:=node hx;obtain⟨b0,Wh,rfl⟩:=List.mem_map.1 hb;obtain⟨j,y,q1,q2,q3⟩:=h.snd i b0 hi hr Wh;exact⟨j,y,b0,q1,q2,q3,rfl,rfl⟩
def TC.clo(hL:BN N ws L)(hp:kD N D FB ws.length c aA d)(h:TC ws N L [] c aA):I6 L aA:=fun i j x y a b hi hj e ha hb hf=>by
 obtain⟨a',p1,p2,p3⟩:=h.cov i x a hi ha;obtain⟨b',q1,q2,q3⟩:=h.cov j y b hj hb;have il:=(zG.1 hi).1;rw[hL.len]at il;have hc:=hp.celN (hp.rok.lt i il);rw[<-e]at q1;have hd:=(hp.ar _ _ hc).up.dis;have:a'=b':=hd.eq a' p1 b' q1 (by omega);subst this;have e1:=p3 aA (fun _ _ _ _ e=>e) (fun _ hz=>by cases hz);have e2:=q3 aA (fun _ _ _ _ e=>e) (fun _ hz=>by cases hz);omega
def TC.good(hL:BN N ws L)(hw:∀w∈ws,w≠0)(hp:kD N D FB ws.length c aA d)(h:TC ws N L [] c aA):¬ VL ws L aA:=fun⟨i,hi,hb⟩=>by
 rw[hL.len]at hi;have hr:=hp.rok.lt i hi;have KA:=hp.rok.idem i hi;have hc:=hp.celN hr;have hk:=hp.kd _ _ hc;have d5:=hw _ (zX (M8 hk));obtain⟨k,K9⟩:=Nat.exists_testBit_of_ne_zero d5;obtain⟨j,x,q1,q2,q3⟩:=hb k;have:=(h.kd _ hr KA k).1 K9 j x q1 q2;rw[q3]at this;cases this
def DI(k:Nat)(x:aJ):aJ:=⟨x.Typex,x.Arcs.map (EX k)⟩
def z48{p1 p2:V aJ}{z:Nat}{l10:V aJ}{rc:Int->V aJ->M (V aJ)}{x:aJ}(hz:p2[z]? = some x)(hx:x.Arcs.length<=12)(hp:p1.length<=1000)(tK:∀a∈x.Arcs,0<=a.To/\a.To<1000):∀(m i:Nat),x.Arcs.length-i<m->i<=x.Arcs.length->
  Qb p1 p2 (z:Int) l10 rc x m (i:Int) ((x.Arcs.take i).map (EX p1.length))=mb (z:Int) l10 rc x (x.Arcs.map (EX p1.length))
 |0,i,hm,_=>by omega
 |m+1,i,hm,hi=>by
  unfold Qb;by_cases aF:i<x.Arcs.length;obtain⟨a,ha,tX⟩:=eA aF;simp only[cH,hz,aP,gP aF,zC,ha,iF aF (show x.Arcs.length<=9223372036854775807 by omega)];rw[fO (by simp only[yA,List.length_take];omega)];have hw:=Km (tK a tX) (k:=p1.length) (by omega);rw[hw];have:=z48 (l10:=l10) (rc:=rc) hz hx hp tK m (i+1) (by omega) (by omega);rw[iY ha,List.map_append]at this;exact this;have:i=x.Arcs.length:=by omega
  subst this;simp only[cH,hz,aP,hX aF,zD,List.take_length]
def z47{p1 p2:V aJ}(hp:p1.length<=1000)(BJ:p2.length<=1000)(hx:∀x∈p2,x.Arcs.length<=12/\∀a∈x.Arcs,0<=a.To/\a.To<1000){n:Nat}(hn:20<=n):∀(m i:Nat),p2.length-i<m->i<=p2.length->
  S6 p1 p2 n m (i:Int) (p1++(p2.take i).map (DI p1.length))=some (p1++p2.map (DI p1.length))
 |0,i,hm,_=>by omega
 |m+1,i,hm,hi=>by
  unfold S6;by_cases aF:i<p2.length;obtain⟨x,hgx,fT⟩:=eA aF;obtain⟨h1,h2⟩:=hx x fT;simp only[gP aF,zC,cH,hgx,aP];have:=z48 (l10:=p1++(p2.take i).map (DI p1.length)) (rc:=S6 p1 p2 n m) hgx h1 hp h2 n 0 (by omega) (by omega);rw[zV,List.take_zero,List.map_nil]at this;rw[this,mb,fO (by simp only[zU,yA,List.length_take];omega),iF aF (by omega)];have ih:=z47 hp BJ hx hn m (i+1) (by omega) (by omega);rw[iY hgx,List.map_append,<-zT]at ih;exact ih;have:i=p2.length:=by omega
  subst this;simp only[hX aF,zD,rk,List.take_length]
variable{n:Nat}
def zcn{p1 p2:V aJ}(hp:p1.length<=1000)(BJ:p2.length<=1000)(hx:∀x∈p2,x.Arcs.length<=12/\∀a∈x.Arcs,0<=a.To/\a.To<1000)(hn:2000<=n):vh n p1 p2=some (p1++p2.map (DI p1.length)):=by have:=z47 hp BJ hx (n:=n) (by omega) n 0 (by omega) (by omega);rw[zV,List.take_zero,List.map_nil,List.append_nil]at this;rw[vh,fO (by omega),this]
def z7h{H:cZ}{p1:gT}{r3:V aJ}(h3:r3.length<=2000):∀(m i:Nat)(l:V Int),r3.length-i<m->i<=r3.length->l.length=i->
  Qa p1 r3 m (i:Int) l=ma p1 r3 (l++uV i (r3.length-i))
 |0,i,l,hm,_,_=>by omega
 |m+1,i,l,hm,hi,hl=>by
  unfold Qa;by_cases aF:i<r3.length;simp only[gP aF,zC,iF aF (show r3.length<=9223372036854775807 by omega)];rw[fO (by omega),z7h (H:=H) h3 m (i+1) (l++[(i:Int)]) (by omega) (by omega) (by simp[hl])];congr 1;have:uV i (r3.length-i)=(i:Int)::uV (i+1) (r3.length-(i+1)):=by obtain⟨k,hk⟩:∃k,r3.length-i=k+1:=⟨r3.length-i-1,by omega⟩;rw[hk,show r3.length-(i+1)=k by omega];simp only[uV,List.range_succ_eq_map,zQ,List.map_map,Nat.add_zero,List.cons.injEq,true_and];exact List.map_congr_left fun x _=>by simp only[Function.comp];omega
  rw[this];simp;have:r3.length-i=0:=by omega
  simp only[hX aF,zD,this];simp[uV]
def zaf{p1:gT}{f:GFS}(hc:p1.Class.length=p1.Cells.length)(hp:p1.Cells.length<=900)(BJ:f.Nodes.length<=100)(hx:∀x∈f.Nodes,x.Arcs.length<=12/\∀a∈x.Arcs,0<=a.To/\a.To<1000)(hn:3000<=n):
  vg n p1 f=some (⟨p1.H,p1.Cells++f.Nodes.map (DI p1.Cells.length),p1.Class++uV p1.Cells.length f.Nodes.length,p1.Marks⟩,(p1.Cells.length:Int)):=by simp only[vg,zcn (p1:=p1.Cells) (p2:=f.Nodes) (by omega) (by omega) hx (n:=n) (by omega),aP];rw[fO (by omega),z7h (H:=p1.H) (by simp only[zU,yA];omega) n p1.Cells.length p1.Class (by simp only[zU,yA];omega) (by simp only[zU,yA];omega) hc,ma];simp only[zU,yA,Nat.add_sub_cancel_left]
structure CK(N:Nat)(cl:V Int)(r:Nat->Nat):Prop where
 len:cl.length=N
 get:∀i,i<N->cl[i]? = some (r i:Int)
 le:∀i,i<N->r i<=i
 idem:∀i,i<N->r (r i)=r i
variable{N:Nat}
variable{cl:V Int}
variable{r:Nat->Nat}
def CK.lt(h:CK N cl r){i:Nat}(hi:i<N):r i<N:=by have:=h.le i hi;omega
def CK.at(h:CK N cl r){v:Int}(hv:0<=v/\v<(N:Int)):aC cl v=some (r v.toNat:Int):=by rw[show v=((v.toNat:Nat):Int) by omega,cH,h.get _ (by omega),zZ]
def mG(lo hi:Int)(l:V Int):V Int:=l.map fun x=>if x==hi then lo else x
def z3t{N:Nat}(hN:N<=100000):∀(m i:Nat),N-i<m->i<=N->Qs (N:Int) m (i:Int) (uV 0 i)=some (uV 0 N)
 |0,i,hm,_=>by omega
 |m+1,i,hm,hi=>by
  unfold Qs;by_cases aF:i<N;simp only[gP aF,zC,iF aF (show N<=9223372036854775807 by omega)];rw[fO (by rw[H'];omega)];have:=z3t hN m (i+1) (by omega) (by omega);rw[zah,Nat.zero_add]at this;exact this;have:i=N:=by omega
  subst this;simp only[hX aF,zD,q_]
def z8s(hN:N<=100000)(hn:N<n):kr n (N:Int)=some (uV 0 N):=by have:=z3t hN n 0 (by omega) (by omega);rw[zV]at this;exact this
def qrh{v11:Type}(a b:V v11)(x y:v11)(k:Nat)(h:a.length=k):(a++x::b).set (0+k) y=a++y::b:=by subst h;simp
def wg(lo hi:Int)(a b:V Int):mG lo hi (a++b)=mG lo hi a++mG lo hi b:=List.map_append
def QU{lo hi x:Int}(h:(x==hi)=true):mG lo hi [x]=[lo]:=by simp only[mG,zQ,List.map_nil,h,if_true]
def QV{lo hi x:Int}(h:(x==hi)=false):mG lo hi [x]=[x]:=by simp only[mG,zQ,List.map_nil,h];rfl
def z0k{x4 x6 x8 x10:Int}:∀(m:Nat)(a b:V Int),b.length<m->a.length+b.length<=100000->
  SD x4 x6 x8 x10 m (a.length:Int) (mG (if x6<x4 then x6 else x4) (if x10>x8 then x10 else x8) a++b)=some (mG (if x6<x4 then x6 else x4) (if x10>x8 then x10 else x8) (a++b))
 |0,a,b,hm,_=>by omega
 |m+1,a,[],hm,hl=>by
  unfold SD;have:decide (((a.length:Nat):Int)<((mG (if x6<x4 then x6 else x4) (if x10>x8 then x10 else x8) a++[]).length:Int))=false:=by simp[mG]
  rw[this,zD,o_,List.append_nil,List.append_nil]
 |m+1,a,x::b,hm,hl=>by
  simp only[zO]at hm hl;unfold SD;have h1:decide (((a.length:Nat):Int)<((mG (if x6<x4 then x6 else x4) (if x10>x8 then x10 else x8) a++x::b).length:Int))=true:=by simp[mG];omega
  have h2:(mG (if x6<x4 then x6 else x4) (if x10>x8 then x10 else x8) a++x::b)[a.length]? = some x:=by rw[List.getElem?_append_right (by simp[mG])];simp[mG]
  have hw:IntKind.i64.wrap ((a.length:Int)+1)=((a.length+1:Nat):Int):=by rw[wr (by omega) (by omega)];simp
  have ih:=z0k (x4:=x4) (x6:=x6) (x8:=x8) (x10:=x10) m (a++[x]) b (by omega) (by simp only[zU,zO,zS];omega);simp only[zU,zO,zS,Nat.zero_add]at ih;simp only[h1,zC,cH,h2,aP,zZ,Pq,hw];have e3:a++[x]++b=a++x::b:=by simp
  by_cases e:(x==(if x10>x8 then x10 else x8))=true;rw[wg,QU e,zT,List.cons_append,List.nil_append]at ih;rw[e,zC,qrh _ _ _ _ _ (by simp[mG]),ih,e3];rw[Bool.not_eq_true]at e;rw[wg,QV e,zT,List.cons_append,List.nil_append]at ih;rw[e,zD,ih,e3]
variable{a:Nat}
variable{b:Nat}
def Jy:(if(b:Int)<(a:Int)then(b:Int)else(a:Int))=((min a b:Nat):Int):=by split;rw[Nat.min_eq_right (by omega)];rw[Nat.min_eq_left (by omega)]
def qj:(if(b:Int)>(a:Int)then(b:Int)else(a:Int))=((max a b:Nat):Int):=by split;rw[Nat.max_eq_right (by omega)];rw[Nat.max_eq_left (by omega)]
def CK.mrg(h:CK N cl r)(ha:a<N)(hb:b<N):CK N (mG ((min (r a) (r b):Nat):Int) ((max (r a) (r b):Nat):Int) cl) (hJ r (min (r a) (r b)) (max (r a) (r b))):=by
 have ia:=h.idem a ha;have ib:=h.idem b hb;have Je:r (min (r a) (r b))=min (r a) (r b):=by rcases Nat.le_total (r a) (r b)with h1 |h1;rw[Nat.min_eq_left h1,ia];rw[Nat.min_eq_right h1,ib]
 refine⟨by simp[mG,h.len],fun i hi=>?_,fun i hi=>?_,fun i hi=>?_⟩;simp only[mG,List.getElem?_map,h.get i hi,zM,zA];unfold hJ;by_cases e:r i=max (r a) (r b);rw[if_pos e,e];simp;rw[if_neg e];have:((r i:Int)==((max (r a) (r b):Nat):Int))=false:=by simp only[beq_eq_false_iff_ne,ne_eq];omega
 rw[this];rfl
 ·have:=h.le i hi;unfold hJ;split
  ·next e=>omega
  exact this
 have:=h.idem i hi;unfold hJ;by_cases e:r i=max (r a) (r b);rw[if_pos e,Je];split<;>rfl;rw[if_neg e,this,if_neg e]
def z9z(h:CK N cl r)(hN:N<=100000){a b:Int}(ha:0<=a/\a<(N:Int))(hb:0<=b/\b<(N:Int))(hn:N<n):
  yg n cl a b=some (mG ((min (r a.toNat) (r b.toNat):Nat):Int) ((max (r a.toNat) (r b.toNat):Nat):Int) cl):=by have hl:=h.len;simp only[yg,h.at ha,h.at hb,aP];rw[fO (by omega)];have:=z0k (x4:=(r a.toNat:Int)) (x6:=(r b.toNat:Int)) (x8:=(r a.toNat:Int)) (x10:=(r b.toNat:Int)) n [] cl (by omega) (by simp only[zS];omega);simp only[zS,mG,List.map_nil,List.nil_append,zV]at this;rw[this,Jy,qj];rfl
def z1q{l:V aG}{f:Int}(hl:l.length<=100000):∀(m i:Nat),l.length-i<m->i<=l.length->Rc l f m (i:Int)=some (match (l.drop i).find? fun x=>x.Feat==f with |some x=>(x.To,true)|none=>(0,false))
 |0,i,hm,_=>by omega
 |m+1,i,hm,hi=>by unfold Rc;by_cases aF:i<l.length;obtain⟨x,hx,_⟩:=eA aF;simp only[gP aF,zC,cH,hx,aP,iF aF (show l.length<=9223372036854775807 by omega),aV hx,List.find?_cons];rcases e:x.Feat==f with _|_;simp only[zD];exact z1q hl m (i+1) (by omega) (by omega);simp only[zC];simp only[hX aF,zD,bQ aF,K_,List.find?_nil]
def z81{l:V aG}{f:Int}(hl:l.length<=100000)(hn:l.length<n):ya n l f=some (match l.find? fun x=>x.Feat==f with |some x=>(x.To,true)|none=>(0,false)):=by have:=z1q (f:=f) hl n 0 (by omega) (by omega);rw[zV,List.drop_zero]at this;exact this
def ua(q:i5):Int×Int:=(q.E0,q.E1)
def z9c{a b:V aG}(ha:mN a)(hb:mN b):mN (a++nN a b):=by unfold mN at*;rw[List.pairwise_append];refine⟨ha,hb.filter _,fun x hx y hy e=>?_⟩;have:=(List.mem_filter.1 hy).2;have h2:xW a y.Feat=true:=MH.2 ⟨x,hx,e⟩;rw[h2]at this;cases this
def II{cells:V aT}{m n:Nat}{x y:aT}(hx:cells[m]? = some x)(hy:cells[n]? = some y)(wE:m≠n)(t:Int){o:V aG}{k:Nat}(ho:o.length+k=x.arcs.length+y.arcs.length):
  tot (xU cells m n t o)+k=tot cells:=by
 have h1:=Fj ⟨-1,t,o⟩ hx;have JX:(cells.set m ⟨-1,t,o⟩)[n]? = some y:=by rw[List.getElem?_set_ne wE];exact hy
 have h2:=Fj ⟨(m:Int),0,[]⟩ JX;simp only[xU,zS]at*;omega
def wq{v11:Type}{l:V v11}{N i:Nat}(hi:i<N){x:v11}(hx:l[i]? = some x):m6 l 0 ((N:Int).toNat) (i:Int)=some x:=by rw[m6,if_pos (by simp only[zZ];omega),Nat.zero_add,zZ,hx]
def zb8{p1:V aJ}{n:Nat}{z:Int}{A:V (V aG)}{rc:Int->V i5->V (V aG)->V Int->M (V Int)}{x y:Nat}{out:V Int}{a b:V aG}(hx:x<p1.length)(hy:y<p1.length)
  (ha:A[min x y]? = some a) (hb:A[max x y]? = some b) (hda:mN a) (qN:a.length<=50000) (BM:b.length<=50000) (hn:100000<=n) {T:V i5} (hT:T.length<=1000000):∀(m k:Nat),b.length-k<m->k<=b.length->
  YL p1 n z A rc (x:Int) (y:Int) (x:Int) (y:Int) out m (k:Int) (a++nN a (b.take k)) (T++(prs a (b.take k)).map pk)=
   mz p1 z A rc (x:Int) (y:Int) out (a++nN a b) (T++(prs a b).map pk)
 |0,k,hm,_=>by omega
 |m+1,k,hm,hk=>by
  unfold YL;have h1:m6 A 0 ((p1.length:Int).toNat) (if(y:Int)>(x:Int)then(y:Int)else(x:Int))=some b:=by rw[qj];exact wq (by omega) hb
  have h2:m6 A 0 ((p1.length:Int).toNat) (if(y:Int)<(x:Int)then(y:Int)else(x:Int))=some a:=by rw[Jy];exact wq (by omega) ha
  have kI:=Fs a (b.take k);have P3:(b.take k).length<=k:=by rw[List.length_take];omega
  simp only[h1,aP];by_cases aF:k<b.length;obtain⟨v,hv,Iu⟩:=eA aF;simp only[gP aF,zC,cH,hv,aP,h2,z81 (f:=v.Feat) (show a.length<=100000 by omega) (show a.length<n by omega),iF aF (show b.length<=9223372036854775807 by omega),Pv];have ih:=zb8 (z:=z) (rc:=rc) (out:=out) hx hy ha hb hda qN BM hn hT m (k+1) (by omega) (by omega);rw[iY hv,ft]at ih;cases hf:a.find? (fun w=>w.Feat==v.Feat)with
  |some w=>
   have hw:=List.mem_of_find?_eq_some hf;have Ir:w.Feat=v.Feat:=by have:=List.find?_some hf;simpa using this
   have hh:xW a v.Feat=true:=MH.2 ⟨w,hw,Ir⟩;rw[qra hda hw Ir,hh]at ih;simp only[zC];rw[fO (by simp only[zU,yA];omega)];rw[<-ih];simp[pk]
  |none=>
   have fD:∀w∈a,w.Feat≠v.Feat:=fun w hw e=>by have:=List.find?_eq_none.1 hf w hw;simp[e]at this
   have hh:xW a v.Feat=false:=by rw[Bool.eq_false_iff];intro e;obtain⟨w,hw,e⟩:=MH.1 e;exact fD w hw e
   rw[qot fD,hh]at ih;simp only[zD];rw[fO (by simp only[zU];omega)];rw[<-ih];simp
  have:k=b.length:=by omega
  subst this;simp only[hX aF,zD,List.take_length]
def zb7{p1:V aJ}{n:Nat}{z:Int}{T:V i5}{A:V (V aG)}{rc:Int->V i5->V (V aG)->V Int->M (V Int)}{x39 x43 x47 x51:Int}:∀(m:Nat)(a b:V Int),b.length<m->a.length+b.length<=100000->
  SE p1 n z T A rc x39 x43 x47 x51 m (a.length:Int) (mG (if x43<x39 then x43 else x39) (if x51>x47 then x51 else x47) a++b)=ub p1 n z T A rc x39 x43 x47 x51 (mG (if x43<x39 then x43 else x39) (if x51>x47 then x51 else x47) (a++b))
 |0,a,b,hm,_=>by omega
 |m+1,a,[],hm,hl=>by
  unfold SE;have:decide (((a.length:Nat):Int)<((mG (if x43<x39 then x43 else x39) (if x51>x47 then x51 else x47) a++[]).length:Int))=false:=by simp[mG]
  rw[this,zD,List.append_nil,List.append_nil]
 |m+1,a,x::b,hm,hl=>by
  simp only[zO]at hm hl;unfold SE;have h1:decide (((a.length:Nat):Int)<((mG (if x43<x39 then x43 else x39) (if x51>x47 then x51 else x47) a++x::b).length:Int))=true:=by simp[mG];omega
  have h2:(mG (if x43<x39 then x43 else x39) (if x51>x47 then x51 else x47) a++x::b)[a.length]? = some x:=by rw[List.getElem?_append_right (by simp[mG])];simp[mG]
  have hw:IntKind.i64.wrap ((a.length:Int)+1)=((a.length+1:Nat):Int):=by rw[wr (by omega) (by omega)];simp
  have ih:=zb7 (p1:=p1) (n:=n) (z:=z) (T:=T) (A:=A) (rc:=rc) (x39:=x39) (x43:=x43) (x47:=x47) (x51:=x51) m (a++[x]) b (by omega) (by simp only[zU,zO,zS];omega);simp only[zU,zO,zS,Nat.zero_add]at ih;simp only[h1,zC,cH,h2,aP,zZ,Pu,hw];have e3:a++[x]++b=a++x::b:=by simp
  by_cases e:(x==(if x51>x47 then x51 else x47))=true;rw[wg,QU e,zT,List.cons_append,List.nil_append]at ih;rw[e,zC,qrh _ _ _ _ _ (by simp[mG]),ih,e3];rw[Bool.not_eq_true]at e;rw[wg,QV e,zT,List.cons_append,List.nil_append]at ih;rw[e,zD,ih,e3]
structure CS(N:Nat)(L:V aJ)(W:V (Int×Int))(A:V (V aG))(out:V Int)(C:V aT)(r:Nat->Nat):Prop where
 ck:CK N out r
 cl:C.length=N
 al:A.length=N
 ar:∀i,i<N->r i=i->A[i]? = some (celN C i).arcs
 ds:∀i,i<N->mN (celN C i).arcs
 pi:∀p∈W,Mw N p
 tc:TC [] N L W C r
structure CD(N:Nat)(L:V aJ)(W:V (Int×Int))(r:Nat->Nat)(pN:V Int)(C':V aT)(r':Nat->Nat):Prop where
 ck:CK N pN r'
 cl:C'.length=N
 ds:∀i,i<N->mN (celN C' i).arcs
 tc:TC [] N L [] C' r'
 mono:∀i j,r i=r j->r' i=r' j
 prs:∀p∈W,r' p.1.toNat=r' p.2.toNat
 und:∀q,I6 L q->VG N W r q->VG N [] r' q
def ed{N:Nat}{L:V aJ}(hL:BN N [] L)(hN:N<=1000){n:Nat}(hn:200000<=n):∀(m z:Nat)(T:V i5)(A:V (V aG))(out:V Int)(C:V aT)(r:Nat->Nat),
  CS N L ((T.drop z).map ua) A out C r->z<=T.length->T.length-z+tot C<m->T.length+tot C<=50000->
  ∃pN C' r',DY L n m (z:Int) T A out=some pN/\CD N L ((T.drop z).map ua) r pN C' r'
 |0,z,T,A,out,C,r,_,_,hm,_=>by omega
 |m+1,z,T,A,out,C,r,h,hz,hm,hB=>by
  unfold DY;have rN:=hL.len;by_cases aF:z<T.length;obtain⟨p,hp,_⟩:=eA aF;have HL:=aV hp;rw[HL,zQ]at h ⊢;have hpi:=h.pi (ua p) (by simp);obtain⟨i1,i2⟩:=hpi;simp only[ua]at i1 i2;have c1:=h.ck.at i1;have c2:=h.ck.at i2;have l1:=h.ck.lt (i:=p.E0.toNat) (by omega);have l2:=h.ck.lt (i:=p.E1.toNat) (by omega);simp only[gP aF,zC,cH,hp,aP,c1,c2];rw[Jy,qj];have hw:IntKind.i64.wrap ((z:Int)+1)=((z+1:Nat):Int):=iF aF (by omega);by_cases e:r p.E0.toNat=r p.E1.toNat;have eb:((((min (r p.E0.toNat) (r p.E1.toNat):Nat):Int))==((max (r p.E0.toNat) (r p.E1.toNat):Nat):Int))=true:=by rw[e];simp
  rw[eb,zC,hw];obtain⟨pN,C',r',g1,g2⟩:=ed hL hN hn m (z+1) T A out C r ⟨h.ck,h.cl,h.al,h.ar,h.ds,fun q hq=>h.pi q (List.mem_cons_of_mem _ hq),h.tc.skip (h.pi _ (by simp)) e⟩ (by omega) (by omega) hB;refine⟨pN,C',r',g1,⟨g2.ck,g2.cl,g2.ds,g2.tc,g2.mono,fun q hq=>?_,fun q hq hu=>g2.und q hq ⟨hu.r,fun w hw=>hu.w w (List.mem_cons_of_mem _ hw)⟩⟩⟩;rcases zI.1 hq with rfl |hq;exact g2.mono _ _ e;exact g2.prs q hq;have eb:((((min (r p.E0.toNat) (r p.E1.toNat):Nat):Int))==((max (r p.E0.toNat) (r p.E1.toNat):Nat):Int))=false:=by rw[beq_eq_false_iff_ne];intro q;omega
  have idl:r (min (r p.E0.toNat) (r p.E1.toNat))=min (r p.E0.toNat) (r p.E1.toNat):=by rcases Nat.le_total (r p.E0.toNat) (r p.E1.toNat)with g |g;rw[Nat.min_eq_left g];exact h.ck.idem _ (by omega);rw[Nat.min_eq_right g];exact h.ck.idem _ (by omega)
  have idh:r (max (r p.E0.toNat) (r p.E1.toNat))=max (r p.E0.toNat) (r p.E1.toNat):=by rcases Nat.le_total (r p.E0.toNat) (r p.E1.toNat)with g |g;rw[Nat.max_eq_right g];exact h.ck.idem _ (by omega);rw[Nat.max_eq_left g];exact h.ck.idem _ (by omega)
  generalize AB:min (r p.E0.toNat) (r p.E1.toNat)=lo at*;generalize TW:max (r p.E0.toNat) (r p.E1.toNat)=hi at*;have llo:lo<N:=by omega
  have lhi:hi<N:=by omega
  have lne:lo≠hi:=by omega
  have a1:=h.ar lo llo idl;have a2:=h.ar hi lhi idh;have hCl:=h.cl;have clo:C[lo]? = some (celN C lo):=by rw[celN,List.getElem?_eq_getElem (by omega)];rfl
  have chi:C[hi]? = some (celN C hi):=by rw[celN,List.getElem?_eq_getElem (by omega)];rfl
  have t1:=Fk clo;have t2:=Fk chi;have kI:=Fs (celN C lo).arcs (celN C hi).arcs;have hM:((celN C lo).arcs++nN (celN C lo).arcs (celN C hi).arcs).length+(prs (celN C lo).arcs (celN C hi).arcs).length=(celN C lo).arcs.length+(celN C hi).arcs.length:=by rw[zU];omega
  have Iw:=II clo chi lne 0 hM;have hMg:Mg N (ua p) C r lo hi:=⟨h.cl,llo,lhi,idl,idh,lne,fun i hi=>h.ck.lt hi,h.ck.idem,h.pi _ (by simp),by simp only[ua];omega,h.ds lo llo⟩;rw[eb,zD];have l3:=zb7 (p1:=L) (n:=n) (z:=(z:Int)) (T:=T) (A:=A) (rc:=DY L n m) (x39:=(r p.E0.toNat:Int)) (x43:=(r p.E1.toNat:Int)) (x47:=(r p.E0.toNat:Int)) (x51:=(r p.E1.toNat:Int)) n [] out (by rw[h.ck.len];omega) (by rw[h.ck.len];simp only[zS];omega);simp only[zS,mG,List.map_nil,List.nil_append,zV]at l3;rw[l3,ub];have i3:m6 A 0 ((L.length:Int).toNat) (if(r p.E1.toNat:Int)<(r p.E0.toNat:Int)then(r p.E1.toNat:Int)else(r p.E0.toNat:Int))=some (celN C lo).arcs:=by rw[Jy,AB];exact wq (by omega) a1
  rw[i3,aP,fO (by omega)];have l4:=zb8 (p1:=L) (n:=n) (z:=(z:Int)) (A:=A) (rc:=DY L n m) (x:=r p.E0.toNat) (y:=r p.E1.toNat) (out:=List.map (fun x=>if x==(if(r p.E1.toNat:Int)>(r p.E0.toNat:Int)then(r p.E1.toNat:Int)else(r p.E0.toNat:Int))then(if(r p.E1.toNat:Int)<(r p.E0.toNat:Int)then(r p.E1.toNat:Int)else(r p.E0.toNat:Int))else x) out)
   (by omega) (by omega) (by rw[AB];exact a1) (by rw[TW];exact a2) (h.ds lo llo) (by omega) (by omega) (by omega) (T:=T) (by omega) n 0 (by omega) (by omega)
  simp only[List.take_zero,nN,prs,List.filter_nil,List.filterMap_nil,List.map_nil,List.append_nil,zV]at l4;rw[l4,mz,i3,aP,hw,Jy,qj,AB,TW,zZ];have hprs:(celN C hi).arcs.filterMap (fun y=>Option.map (fun x=>(x.To,y.To)) ((celN C lo).arcs.find? fun x=>x.Feat==y.Feat))=prs (celN C lo).arcs (celN C hi).arcs:=rfl;have iC:(celN C hi).arcs.filter (fun y=>!xW (celN C lo).arcs y.Feat)=nN (celN C lo).arcs (celN C hi).arcs:=rfl;rw[hprs,iC];have xO:=h.ck.mrg (a:=p.E0.toNat) (b:=p.E1.toNat) (by omega) (by omega);rw[AB,TW]at xO;have TZ:((T++(Go.Proofs.prs (celN C lo).arcs (celN C hi).arcs).map pk).drop (z+1)).map ua=(T.drop (z+1)).map ua++Go.Proofs.prs (celN C lo).arcs (celN C hi).arcs:=by rw[List.drop_append_of_le_length (by omega),List.map_append,List.map_map];congr 1;have:(ua ∘ pk)=(id:Int×Int->Int×Int):=funext fun q=>rfl;rw[this,List.map_id]
  have AE:=qzq (c:=C) (m:=lo) (n:=hi) (by omega) (by omega) lne 0 ((celN C lo).arcs++nN (celN C lo).arcs (celN C hi).arcs);have inr:∀i,i<N->r i=i->∀b∈(celN C i).arcs,0<=b.To/\b.To<(N:Int):=fun i hi pD b hb=>by obtain⟨j,c,q1,q2,q3⟩:=h.tc.snd i b hi pD hb;exact hL.ar j c b q1 q3
  have P1:∀w∈Go.Proofs.prs (celN C lo).arcs (celN C hi).arcs,w∈(T.drop (z+1)).map ua++Go.Proofs.prs (celN C lo).arcs (celN C hi).arcs:=fun w hw=>List.mem_append_right _ hw;have y4:∀w∈(T.drop (z+1)).map ua,w∈(T.drop (z+1)).map ua++Go.Proofs.prs (celN C lo).arcs (celN C hi).arcs:=fun w hw=>List.mem_append_left _ hw;have htc:=h.tc.mrg hL hMg (t:=0) (o:=(celN C lo).arcs++nN (celN C lo).arcs (celN C hi).arcs) (by simp[f0]) (List.Perm.refl _) P1 y4;obtain⟨pN,C',r',g1,g2⟩:=ed hL hN hn m (z+1) (T++(Go.Proofs.prs (celN C lo).arcs (celN C hi).arcs).map pk) (A.set lo ((celN C lo).arcs++nN (celN C lo).arcs (celN C hi).arcs)) (mG (lo:Int) (hi:Int) out) (xU C lo hi 0 ((celN C lo).arcs++nN (celN C lo).arcs (celN C hi).arcs)) (hJ r lo hi)
   (by
    rw[TZ];refine⟨xO,by simp[xU,h.cl],by simp[h.al],fun i kY pD=>?_,fun i kY=>?_,fun q hq=>?_,htc⟩;rw[AE];have hih:i≠hi:=fun q=>by subst q;unfold hJ at pD;rw[idh,if_pos rfl]at pD;exact lne pD
    rw[if_neg hih];by_cases eil:i=lo;subst eil;rw[if_pos rfl,List.getElem?_set_self (by rw[h.al];exact kY)];rw[if_neg eil,List.getElem?_set_ne (fun q=>eil q.symm)];refine h.ar i kY ?_;unfold hJ at pD;split at pD;exact absurd pD.symm eil;exact pD;rw[AE];split;exact List.Pairwise.nil;split;exact z9c (h.ds lo llo) (h.ds hi lhi);exact h.ds i kY;rcases yD.1 hq with hq |hq;exact h.pi q (List.mem_cons_of_mem _ hq);obtain⟨x,hx,y,hy,_,rfl⟩:=S' hq;exact⟨inr lo llo idl x hx,inr hi lhi idh y hy⟩)
   (by rw[zU];omega) (by simp only[zU,yA];omega) (by simp only[zU,yA];omega)
  rw[TZ]at g2;refine⟨pN,C',r',g1,⟨g2.ck,g2.cl,g2.ds,g2.tc,fun i j lM=>g2.mono i j (je lM),fun q hq=>?_,fun q hq hu=>?_⟩⟩;rcases zI.1 hq with rfl |hq;refine g2.mono _ _ ?_;simp only[ua];unfold hJ;have:(r p.E0.toNat=lo/\r p.E1.toNat=hi)\/(r p.E0.toNat=hi/\r p.E1.toNat=lo):=by omega
  rcases this with⟨q1,q2⟩|⟨q1,q2⟩;rw[q1,q2,if_neg lne,if_pos rfl];rw[q1,q2,if_neg lne,if_pos rfl];exact g2.prs q (y4 q hq);refine g2.und q hq (hu.mrg hL hMg h.tc hq fun w hw=>?_).2;rcases yD.1 hw with hw |hw;exact .inr hw;exact .inl hw;have:z=T.length:=by omega
  subst this;rw[List.drop_length,List.map_nil]at h ⊢;simp only[hX aF,zD,p_];exact⟨out,C,r,rfl,h.ck,h.cl,h.ds,h.tc,fun _ _ q=>q,(fun _ hq=>(by cases hq)),fun _ _ hu=>hu⟩
end Go.Proofs
