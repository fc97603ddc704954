import Derived.Test.YtldlchbgolpkaaaGreatP18
set_option linter.all false
namespace Go.Proofs
open Go Go.Rx Go.Vx Go.Shelf Go.Sort
set_option maxRecDepth 10000
variable{d:I bL}
variable{n:Nat}
def zbd(h:AB d){all:I Str}(fA:all.length<=12){s:Str}(hs:lK d s)(ha:∀x∈all,lK d x)(hn:5000<=n):∃w,Qt n d all s=some (bt w)/\w<4096/\∀i,w.testBit i=true↔∃t,all[i]? = some t/\oQ d t s:=by
 obtain⟨low,b1,b2,b3,b4⟩:=z77 h hs hn;have:=jR (l:=all) (by omega) (F:=fun m z (s:I Nat)=>PB all n low m z (s.map fun(i:Nat)=>(i:Int))) (fun i s=>s.length<=i/\∀j,j∈s↔j<i/\∃t,all[j]? = some t/\t∈low) (Q:=fun r=>∃w,r=bt w/\w<4096/\∀i,w.testBit i=true↔∃t,all[i]? = some t/\oQ d t s)
  (fun m i x s' hx aE bG hw hI ih=>by
   obtain⟨i1,i2⟩:=hI;simp only[PB,bG,zC,cH,hx,aP,OV (l:=low) (by omega) x (n:=n) (by omega),Sl,hw,yA];by_cases hm:x∈low;simp only[hm,yC,zC];rw[fO (by omega)];have:=ih (s'++[i]) ⟨by simp;omega,fun j=>by rw[yD,i2,List.mem_singleton];constructor;rintro(⟨h1,h2⟩|rfl);exact⟨by omega,h2⟩;exact⟨by omega,x,hx,hm⟩;rintro⟨h1,h2⟩;by_cases e:j=i;exact .inr e;exact .inl ⟨by omega,h2⟩⟩;rw[List.map_append]at this;exact this;simp only[hm,yB,zD];exact ih s' ⟨by omega,fun j=>by
    rw[i2];constructor;rintro⟨h1,h2⟩;exact⟨by omega,h2⟩;rintro⟨h1,t,h2,h3⟩;refine⟨?_,t,h2,h3⟩;have:j≠i:=fun e=>by subst e;rw[hx]at h2;cases h2;exact hm h3
    omega⟩)
  (fun m s' bG hI=>by
   obtain⟨i1,i2⟩:=hI;have eC:∀i∈s',i<12:=fun i hi=>by have:=((i2 i).1 hi).1;omega
   simp only[PB,bG,zD,lu,Uo (l:=s') (by omega) eC hn,aP];refine⟨_,rfl,JI s',rfl,E' s' 0 eC (by omega),fun i=>?_⟩;rw[JI,zad];simp only[Nat.zero_testBit,Bool.false_or,decide_eq_true_eq];rw[i2];constructor;rintro⟨_,t,h1,h2⟩;exact⟨t,h1,((b4 t).1 h2).2⟩;rintro⟨t,h1,h2⟩;exact⟨(zG.1 h1).1,t,h1,(b4 t).2 ⟨ha t (zX h1),h2⟩⟩) n 0 [] (by omega) (by omega) ⟨by simp,fun j=>by simp⟩
 obtain⟨r,h1,w,rfl,h2,h3⟩:=this;rw[zV]at h1;exact⟨w,by simp only[Qt,b1,aP];exact h1,h2,h3⟩
structure FI(c0 ws:I Nat):Prop where
 pre:∃t,ws=c0++t
 nod:ws.Nodup
 ok:∀a∈ws,a<4096/\a≠0/\∃b∈c0,a&&&b=a
 len:ws.length<=257
def LQ(ws:I Nat)(i k:Nat):Prop:=∀i' k' a b,k'<i'->(i'<i\/(i'=i/\k'<k))->ws[i']? = some a->ws[k']? = some b->a&&&b=0\/a&&&b∈ws
variable{ws:I Nat}
def LQ.app{t:I Nat}{i k:Nat}(h:LQ ws i k)(hi:i<ws.length):LQ (ws++t) i k:=fun i' k' a b h1 h2 h3 h4=>by
 have e1:i'<ws.length:=by omega
 rw[List.getElem?_append_left e1]at h3;rw[List.getElem?_append_left (by omega)]at h4;rcases h i' k' a b h1 h2 h3 h4 with h5 |h5;exact .inl h5;exact .inr (List.mem_append_left _ h5)
def xk{c0:I Nat}{n:Nat}(hn:5000<=n){i:Nat}{rc:Int->I (I Int)->V (I (I Int))}{Q:I (I Int)->Prop}(KI:i<=256)(K9:∀ws',FI c0 ws'->i<ws'.length->(ws'.length<=256->LQ ws' (i+1) 0)->∃r,rc ((i+1:Nat):Int) (ws'.map bt)=some r/\Q r):
  ∀(m k:Nat)(ws:I Nat),i-k<m->k<=i->FI c0 ws->i<ws.length->(ws.length<=256->LQ ws i k)->∃r,TG n i rc m k (ws.map bt)=some r/\Q r
 |0,k,ws,hm,_,_,_,_=>by omega
 |m+1,k,ws,hm,hk,hf,hi,hc=>by
  have hl:=hf.len;have bq:IntKind.i64.wrap ((i:Int)+1)=((i+1:Nat):Int):=GK (by omega) (by omega);unfold TG;by_cases aE:k<i;have e0:decide ((k:Int)<(i:Int))=true:=by simp;omega
  simp only[e0,zC,yA];by_cases CM:ws.length<=256;obtain⟨a,ha,tS⟩:=eI hi;obtain⟨b,hb,eh⟩:=eI (show k<ws.length by omega);have e1:decide ((ws.length:Int)<=256)=true:=by simp;omega
  have ga:(ws.map bt)[i]? = some (bt a):=by rw[List.getElem?_map,ha];rfl
  have gb:(ws.map bt)[k]? = some (bt b):=by rw[List.getElem?_map,hb];rfl
  have hwk:IntKind.i64.wrap ((k:Int)+1)=((k+1:Nat):Int):=GK (by omega) (by omega);have oka:=hf.ok a tS;have okb:=hf.ok b eh;simp only[e1,aP,zC,cH,ga,gb,z9f oka.1 okb.1 (show 5<=n by omega),Vn (ws:=ws) (by omega) (b:=a&&&b) hn,Tl,hwk];have uP:∀t,(a&&&b=0\/a&&&b∈ws++t)->LQ (ws++t) i (k+1):=fun t ht i' k' x y h1 h2 h3 h4=>by by_cases e:i'=i/\k'=k;obtain⟨rfl,rfl⟩:=e;rw[List.getElem?_append_left hi,ha]at h3;rw[List.getElem?_append_left (by omega),hb]at h4;cases h3;cases h4;exact ht;exact(hc CM).app hi i' k' x y h1 (by omega) h3 h4
  by_cases hz:a&&&b=0;have e2:decide (((bt (a&&&b)).length:Int)>0)=false:=by rw[hz];simp[R8]
  simp only[e2,zD,aP];refine xk hn KI K9 m (k+1) ws (by omega) (by omega) hf hi fun _=>?_;have:=uP [] (.inl hz)
  rwa [List.append_nil]at this
  have e2:decide (((bt (a&&&b)).length:Int)>0)=true:=by rw[sX hz];simp
  simp only[e2,zC,aP];by_cases dK:a&&&b∈ws;simp only[dK,yC,Bool.not_true,zD];refine xk hn KI K9 m (k+1) ws (by omega) (by omega) hf hi fun _=>?_;have:=uP [] (.inr (by simpa using dK))
  rwa [List.append_nil]at this
  simp only[dK,yB,Bool.not_false,zC];rw[fO (by omega)];have Xg:FI c0 (ws++[a&&&b]):=by obtain⟨t,ht⟩:=hf.pre;refine⟨⟨t++[a&&&b],by rw[ht,zT]⟩,?_,fun c hc=>?_,by simp;omega⟩;rw[List.nodup_append];exact⟨hf.nod,by simp,fun x hx y hy e=>by simp at hy;subst hy;subst e;exact dK hx⟩;rcases yD.1 hc with hc |hc;exact hf.ok c hc;simp at hc;subst hc;obtain⟨g,hg,eg⟩:=oka.2.2;refine⟨Nat.lt_of_le_of_lt Nat.and_le_left oka.1,hz,g,hg,?_⟩;rw[Nat.and_assoc,Nat.and_comm b g,<-Nat.and_assoc,eg]
  have:=xk hn KI K9 m (k+1) (ws++[a&&&b]) (by omega) (by omega) Xg (by simp;omega) fun _=>uP [a&&&b] (.inr (by simp));rw[List.map_append]at this;exact this;have e1:decide ((ws.length:Int)<=256)=false:=by simp;omega
  simp only[e1,aP,zD,Tj,bq];exact K9 ws hf hi fun h=>absurd h CM;have e0:decide ((k:Int)<(i:Int))=false:=by simp;omega
  simp only[e0,zD,aP,Tj,bq];refine K9 ws hf hi fun h i' k' a b h1 h2 h3 h4=>hc h i' k' a b h1 (by omega) h3 h4
def z9t{c0:I Nat}{n:Nat}(hn:5000<=n):∀(m i:Nat)(ws:I Nat),258-i<=m->i<=257->FI c0 ws->i<=ws.length->(ws.length<=256->LQ ws i 0)->
  ∃r,MV n m i (ws.map bt)=some r/\∃ws',r=ws'.map bt/\FI c0 ws'/\(ws'.length<=256->LQ ws' ws'.length 0)
 |0,i,ws,hm,_,_,_,_=>by omega
 |m+1,i,ws,hm,hi,hf,NF,hc=>by
  have hl:=hf.len;unfold MV;simp only[yA];by_cases aE:i<ws.length;by_cases CM:ws.length<=256;have e1:decide ((ws.length:Int)<=256)=true:=by simp;omega
  simp only[gS aE,zC,e1,aP];have:=xk (c0:=c0) hn (i:=i) (rc:=MV n m) (Q:=fun r=>∃ws',r=ws'.map bt/\FI c0 ws'/\(ws'.length<=256->LQ ws' ws'.length 0)) (by omega) (fun ws' f1 f2 f3=>z9t hn m (i+1) ws' (by omega) (by omega) f1 (by omega) f3) n 0 ws (by omega) (by omega) hf aE hc;rw[zV]at this;exact this;have e1:decide ((ws.length:Int)<=256)=false:=by simp;omega
  simp only[gS aE,zC,e1,aP,zD,Tk];exact⟨_,rfl,ws,rfl,hf,fun h=>absurd h CM⟩;simp only[hZ aE,zD,aP,Tk];have:i=ws.length:=by omega
  exact⟨_,rfl,ws,rfl,hf,this ▸ hc⟩
def R4(ws:I Nat):Prop:=∀a∈ws,∀b∈ws,a&&&b≠0->a&&&b∈ws
def LQ.all(h:LQ ws ws.length 0):R4 ws:=fun a ha b hb d5=>by
 obtain⟨i,hi,rfl⟩:=List.mem_iff_getElem.1 ha;obtain⟨k,hk,rfl⟩:=List.mem_iff_getElem.1 hb;by_cases e:i=k;subst e;rw[Nat.and_self];exact ha;by_cases aE:k<i;exact(h i k _ _ aE (.inl hi) (List.getElem?_eq_getElem hi) (List.getElem?_eq_getElem hk)).resolve_left d5;rw[Nat.and_comm]at d5 ⊢;exact(h k i _ _ (by omega) (.inl hk) (List.getElem?_eq_getElem hk) (List.getElem?_eq_getElem hi)).resolve_left d5
def z3d{c0:I Nat}(hl:c0.length<=12)(cf:c0.Nodup)(hc:∀a∈c0,a<4096/\a≠0)(hn:5000<=n):∃ws,Rw n (c0.map bt)=some (ws.map bt)/\FI c0 ws/\(ws.length<=256->R4 ws):=by obtain⟨r,h1,ws,rfl,h2,h3⟩:=z9t (c0:=c0) hn n 0 c0 (by omega) (by omega) ⟨⟨[],by simp⟩,cf,fun a ha=>⟨(hc a ha).1,(hc a ha).2,a,ha,Nat.and_self a⟩,by omega⟩ (by omega) (fun _ i' k' a b h1 h2=>by omega);rw[zV]at h1;refine⟨ws,?_,h2,fun h=>(h3 h).all⟩;rw[Rw,fO (by rw[yA];omega)];exact h1
def Aw{l:I Str}(hl:l.length<=12)(hs:∀s∈l,s.length<=32)(hn:5000<=n):∃s,MP l n [] 0=some s:=by
 have:=jR (l:=l) (by omega) (F:=fun m z s=>MP l m s z) (fun i s=>s.length<=33*i) (Q:=fun _=>True)
  (fun m i x s hx aE bG hw hI ih=>by
   have Bm:=hs x (zX hx);simp only[MP,bG,zC,Sk,cH,hx,aP,hw];cases decide ((i:Int)>0)with
   |true=>simp only[zC];rw[fO (by show s.length+1<=_;omega),fO (by rw[zU];show s.length+1+x.length<=_;omega)];exact ih _ (by rw[zU,zU];show s.length+1+x.length<=_;omega)|false=>simp only[zD];rw[fO (by omega)];exact ih _ (by rw[zU];omega))
  (fun m s bG hI=>by simp only[MP,bG,zD,lj];exact⟨s,rfl,trivial⟩) n 0 [] (by omega) (by omega) (by simp)
 obtain⟨s,h1,_⟩:=this;exact⟨s,h1⟩
def qzc(h:AB d){all:I Str}(fA:all.length<=12){c0:I Nat}(KN:c0.length=all.length)(hc:∀a∈c0,a<4096){w:Nat}(hw:w<4096)(hn:5000<=n):
  ∃s,Qs n d all (c0.map bt) (bt w)=some s/\∀(i:Nat)(t:Str),c0.Nodup->c0[i]? = some w->all[i]? = some t->s=t:=by
 have:=jR (l:=all) (by omega) (F:=fun m z s=>PA d all (c0.map bt) (bt w) n m z s) (fun i (s:I Str)=>s.length<=i/\∀j,j<i->c0[j]? ≠some w) (Q:=fun s=>∀(i:Nat)(t:Str),c0.Nodup->c0[i]? = some w->all[i]? = some t->s=t)
  (fun m i x s hx aE bG xQ hI ih=>by
   obtain⟨a,ha,tS⟩:=eI (l:=c0) (show i<c0.length by omega);have ga:(c0.map bt)[i]? = some (bt a):=by rw[List.getElem?_map,ha];rfl
   simp only[PA,bG,zC,cH,ga,hx,aP,jv (hc a tS) hw (show 5<=n by omega),za0 (w:=w) (n:=n) hw (show i<64 by omega),Sj,xQ];by_cases e:a=w;subst e;simp only[yC,zC];refine⟨x,rfl,fun k t NC hk ht=>?_⟩;obtain⟨p1,p2⟩:=zG.1 ha;obtain⟨q1,q2⟩:=zG.1 hk;have:i=k:=(List.getElem_inj NC).1 (p2.trans q2.symm);subst this;rw[hx]at ht;exact Option.some.inj ht;have eH:∀j,j<i+1->c0[j]? ≠some w:=fun j hj=>by by_cases e2:j=i;subst e2;rw[ha];exact fun h=>e (Option.some.inj h);exact hI.2 j (by omega)
   simp only[e,yB,zD];cases w.testBit i with
   |true=>simp only[zC];rw[fO (by have:=hI.1;omega)];exact ih (s++[x]) ⟨by have:=hI.1;simp;omega,eH⟩|false=>exact ih s ⟨by have:=hI.1;omega,eH⟩)
  (fun m s bG hI=>by obtain⟨out,m1,m2,m3⟩:=qrt h (l:=s) (by have:=hI.1;omega) hn;obtain⟨r,j1⟩:=Aw (l:=out) (by have:=hI.1;omega) (fun t ht=>by obtain⟨x,hx,e⟩:=(m3 t ht).2;have:=(h.nam.len x hx).2;rw[e]at this;exact this) hn;simp only[PA,bG,zD,ll,m1,aP];refine⟨r,j1,fun i t _ hi _=>absurd hi (hI.2 i ?_)⟩;have:=(zG.1 hi).1;omega) n 0 [] (by omega) (by omega) ⟨by simp,fun j hj=>by omega⟩
 rw[zV]at this;exact this
def cw:I Int->Nat
 |[z]=>z.toNat|_=>0
def IW(w:Nat):cw (bt w)=w:=by by_cases h:w=0;subst h;rfl;rw[sX h];simp[cw]
def cnt(x:dQ):Nat:=(bl (cw x.Code)).length
def z2l{x y:dQ}{a b:Nat}(hx:x.Code=bt a)(hy:y.Code=bt b)(ha:a<4096)(hb:b<4096)(hn:5000<=n):∃r,Ry n x y=some r/\(r=true->cnt y<=cnt x)/\(r=false->cnt x<=cnt y):=by
 have e1:cnt x=(bl a).length:=by rw[cnt,hx,IW]
 have e2:cnt y=(bl b).length:=by rw[cnt,hy,IW]
 rw[e1,e2];simp only[Ry,hx,hy,qym ha (show 100<=n by omega),qym hb (show 100<=n by omega),aP];by_cases h1:((bl a).length:Int)>((bl b).length:Int);simp only[h1,yC,zC,aP];exact⟨true,rfl,fun _=>by omega,fun h=>by cases h⟩;simp only[h1,yB,zD];by_cases h2:((bl a).length:Int)=((bl b).length:Int);have:(((bl a).length:Int)==((bl b).length:Int))=true:=by simpa using h2
 simp only[this,zC,aP];exact⟨_,rfl,fun _=>by omega,fun _=>by omega⟩;have:(((bl a).length:Int)==((bl b).length:Int))=false:=by simpa using h2
 simp only[this,zD,aP];exact⟨false,rfl,fun h=>(by cases h),fun _=>by omega⟩
structure CI(nm:Nat->V Str)(ws:I Nat)(l:I dQ):Prop where
 perm:(l.map dQ.Code).Perm (ws.map bt)
 nam:∀w∈ws,∃x∈l,x.Code=bt w/\nm w=some x.Name
 srt:l.Pairwise fun a b=>cnt b<=cnt a
variable{nm:Nat->V Str}
variable{l:I dQ}
def CI.len(h:CI nm ws l):l.length=ws.length:=by
 have:=h.perm.length_eq
 rwa [yA,yA]at this
def CI.cod(h:CI nm ws l):∀x∈l,∃w∈ws,x.Code=bt w:=fun x hx=>by
 have:=h.perm.mem_iff.1 (List.mem_map_of_mem (f:=dQ.Code) hx);obtain⟨w,hw,e⟩:=List.mem_map.1 this;exact⟨w,hw,e.symm⟩
def Uz(h:CI nm ws l)(hl:l.length<=300)(hws:∀w∈ws,w<4096){w:Nat}(hw:w<4096){s:Str}(hs:nm w=some s)(hn:5000<=n){dU:Int}{rc:Int->I dQ->V (I dQ×Int)}{Q:I dQ×Int->Prop}
  (K9:∀l',CI nm (ws++[w]) l'->∃r,rc (IntKind.i64.wrap (dU+1)) l'=some r/\Q r):
  ∀(m z:Nat),z<m->z<=l.length->(∀y∈l.drop z,cnt y<=cnt ⟨s,bt w⟩)->∃r,Jc n dU l rc s (bt w) m z=some r/\Q r:=by
 have fin:∀z,z<=l.length->(∀y∈l.drop z,cnt y<=cnt ⟨s,bt w⟩)->(∀y∈l.take z,cnt ⟨s,bt w⟩<=cnt y)->∃r,Tc dU l rc s (bt w) z=some r/\Q r:=by
  intro z hz FS UT;have t1:((l.drop 0).take ((z:Int)).toNat)=l.take z:=by rw[List.drop_zero,zZ]
  have t2:((l.drop (0+((z:Int)).toNat)).take (l.length-((z:Int)).toNat))=l.drop z:=by rw[zZ,Nat.zero_add];exact zW (by simp)
  have tl:(l.take z).length=z:=by simp;omega
  have dl:(l.drop z).length=l.length-z:=by simp
  simp only[Tc,t1,t2];rw[fO (by omega),fO (by rw[zZ];omega),fO (by rw[tl];omega),fO (by rw[tl];omega),fO (by omega),fO (by rw[zZ];omega),fO (by rw[zU,tl,dl];simp;omega)];refine K9 _ ⟨?_,fun v hv=>?_,?_⟩;have hp:((l.take z++[dQ.mk s (bt w)])++l.drop z).Perm (l++[dQ.mk s (bt w)]):=by rw[zT];refine(List.perm_append_comm_assoc _ _ _).trans ?_;rw[List.take_append_drop];exact List.perm_append_comm
  refine(hp.map dQ.Code).trans ?_;rw[List.map_append,List.map_append];exact h.perm.append_right _;rcases yD.1 hv with hv |hv;obtain⟨x,hx,e1,e2⟩:=h.nam v hv;refine⟨x,?_,e1,e2⟩;rw[<-List.take_append_drop z l]at hx;rcases yD.1 hx with hx |hx;exact List.mem_append_left _ (List.mem_append_left _ hx);exact List.mem_append_right _ hx;simp at hv;subst hv;exact⟨⟨s,bt v⟩,by simp,rfl,hs⟩;have h1:=h.srt;rw[<-List.take_append_drop z l,List.pairwise_append]at h1;rw[List.pairwise_append,List.pairwise_append];refine⟨⟨h1.1,by simp,fun a ha b hb=>by simp at hb;subst hb;exact UT a ha⟩,h1.2.1,fun a ha b hb=>?_⟩;rcases yD.1 ha with ha |ha;exact h1.2.2 a ha b hb;simp at ha;subst ha;exact FS b hb
 intro m;induction m with
 |zero=>intro z hm;omega|succ m ih=>
  intro z hm hz FS;unfold Jc;by_cases h0:z=0;subst h0;simp only[zV,Int.lt_irrefl,yB,zD,aP,show((0:Int)>0)=False by simp];have:=fin 0 (by omega) FS (by simp)
  rwa [zV]at this
  have e0:decide ((z:Int)>0)=true:=by simp;omega
  have e1:IntKind.i64.wrap ((z:Int)-1)=((z-1:Nat):Int):=GK (by omega) (by omega);obtain⟨y,hy,C4⟩:=eI (l:=l) (show z-1<l.length by omega);obtain⟨v,hv,ev⟩:=h.cod y C4;obtain⟨r,r1,r2,r3⟩:=z2l (x:=⟨s,bt w⟩) (y:=y) rfl ev hw (hws v hv) hn;simp only[e0,zC,e1,cH,hy,aP,r1];cases r with
  |true=>
   simp only[zC];refine ih (z-1) (by omega) (by omega) fun x hx=>?_;rw[aX hy,show z-1+1=z by omega]at hx;rcases zI.1 hx with rfl |hx
   exact r2 rfl;exact FS x hx
  |false=>
   simp only[zD];refine fin z hz FS fun x hx=>?_;have h1:=h.srt;rw[<-List.take_append_drop (z-1) l,List.pairwise_append]at h1;have:l.take z=l.take (z-1)++[y]:=by rw[<-j5 hy,show z-1+1=z by omega]
   rw[this]at hx;rcases yD.1 hx with hx |hx;exact Nat.le_trans (r3 rfl) (h1.2.2 x hx y (by rw[aX hy];simp));simp at hx;subst hx;exact r3 rfl
def XO(h:AB d):∃s0,lK d s0/\∀s,lK d s->oQ d s s0:=by
 obtain⟨l,hl,bA⟩:=h.ord;have cR:∀s,lK d s->s∈l:=fun s ⟨x,hx,e⟩=>by
  apply Classical.byContradiction;intro hn;have h3:=Qc (a:=s::l) (b:=d.map bL.Name) (List.nodup_cons.2 ⟨hn,hl.nodup.1⟩) fun t ht=>by rcases zI.1 ht with rfl |ht;rw[<-e];exact List.mem_map_of_mem hx;obtain⟨y,hy,rfl⟩:=hl.nodup.2 t ht;exact List.mem_map_of_mem hy
  simp at h3;omega
 obtain⟨x0,vT⟩:∃x0,d.filter (fun x=>decide (x.Supers=[]))=[x0]:=List.length_eq_one_iff.1 h.one;have hm0:x0∈d:=(List.mem_filter.1 (show x0∈d.filter (fun x=>decide (x.Supers=[])) by rw[vT];simp)).1;refine⟨x0.Name,⟨x0,hm0,rfl⟩,fun s hs=>?_⟩;have key:∀{l:I Str},Ord d l->∀s∈l,oQ d s x0.Name:=by
  intro l hl;induction hl with
  |nil=>intro s hs;cases hs| @snoc l x g1 g2 g3 g4 ih=>
   intro s hs;rcases yD.1 hs with hs |hs;exact ih s hs;simp at hs;subst hs;cases hsup:x.Supers with
   |nil=>have:x∈d.filter (fun x=>decide (x.Supers=[])):=List.mem_filter.2 ⟨g2,by simp[hsup]⟩;rw[vT]at this;simp at this;rw[this];exact .refl|cons u us=>
    have hu:u∈x.Supers:=by rw[hsup];simp
    exact oQ.trans (.step .refl g2 rfl hu) (ih u (g4 u hu))
 exact key hl s (cR s hs)
structure HT(d:I bL)(l:I dQ):Prop where
 ws:∃(nm:Nat->V Str)(c0 ws:I Nat),FI c0 ws/\R4 ws/\CI nm ws l/\ws.length<=256/\0<ws.length
 dcl:∀s,lK d s->∃x∈l,x.Name=s
 top:∃w0,(∃x∈l,x.Code=bt w0)/\∀x∈l,w0&&&cw x.Code=cw x.Code
def HT.len{d:I bL}{l:I dQ}(h:HT d l):l.length<=256/\0<l.length:=by obtain⟨nm,c0,ws,h1,h2,h3,h4,h5⟩:=h.ws;have:=h3.len;omega
def HT.cod{d:I bL}{l:I dQ}(h:HT d l):∀x∈l,∃w,x.Code=bt w/\w<4096/\w≠0:=fun x hx=>by
 obtain⟨nm,c0,ws,h1,h2,h3,h4,h5⟩:=h.ws;obtain⟨w,hw,e⟩:=h3.cod x hx;exact⟨w,e,(h1.ok w hw).1,(h1.ok w hw).2.1⟩
def z7h(hd:d.length<=12)(hn:5000<=n):∃l e,P3 n d=some (l,e)/\(e=0->AB d/\HT d l):=by
 obtain⟨e,c1,c2⟩:=z2w hd hn;simp only[P3,c1,aP];by_cases he:e=0;subst he;have h:=c2 rfl;obtain⟨all,n1,n2⟩:=names_ok (d:=d) (by omega) hn;have fA:all.length<=12:=by have:=n2.len;simp at this;omega
 have cR:∀s,s∈all↔lK d s:=fun s=>by rw[n2.mem];simp[lK,List.mem_map]
 simp only[bne_self_eq_false,zD,n1,aP];have:=jR (l:=all) (by omega) (F:=fun m z (s:I Nat)=>ZM d n all m z (s.map bt)) (fun i s=>s.length=i/\(∀w∈s,w<4096)/\∀(j w:Nat)(t:Str),s[j]? = some w->all[j]? = some t->∀i:Nat,w.testBit i=true↔∃u,all[i]? = some u/\oQ d u t) (Q:=fun r=>r.2=0->AB d/\HT d r.1)
  (fun m i x s hx aE bG hw hI ih=>by
   obtain⟨i1,i2,i3⟩:=hI;obtain⟨w,w1,w2,w3⟩:=zbd h fA ((cR x).1 (zX hx)) (fun y hy=>(cR y).1 hy) hn;simp only[ZM,bG,zC,cH,hx,aP,w1,hw,yA];rw[fO (by omega)];have:=ih (s++[w]) ⟨by simp;omega,fun v hv=>by
    rcases yD.1 hv with hv |hv;exact i2 v hv;simp at hv;subst hv;exact w2,fun j v t hj ht=>by
    by_cases e:j<s.length;rw[List.getElem?_append_left e]at hj;exact i3 j v t hj ht;have:j=i:=by have:=(zG.1 hj).1;simp at this;omega
    subst this;rw[List.getElem?_append_right (by omega),i1,Nat.sub_self]at hj;simp at hj;subst hj;rw[hx]at ht;cases ht;exact w3⟩
   rw[List.map_append]at this;exact this)
  (fun m c0 bG hI=>by
   obtain⟨i1,i2,i3⟩:=hI;have tJ:∀(j w:Nat),c0[j]? = some w->w.testBit j=true:=fun j w hj=>by obtain⟨t,ht,_⟩:=eI (l:=all) (show j<all.length by have:=(zG.1 hj).1;omega);exact(i3 j w t hj ht j).2 ⟨t,ht,.refl⟩
   have Xi:c0.Nodup:=by rw[List.Nodup,List.pairwise_iff_getElem];intro a b ha hb uQ e;obtain⟨s,hs,HC⟩:=eI (l:=all) (show a<all.length by omega);obtain⟨t,ht,htm⟩:=eI (l:=all) (show b<all.length by omega);have ga:=List.getElem?_eq_getElem ha;have gb:=List.getElem?_eq_getElem hb;have h1:=tJ a _ ga;have h2:=tJ b _ gb;rw[e]at h1;rw[<-e]at h2;obtain⟨u,hu,R?⟩:=(i3 b _ t gb ht a).1 h1;obtain⟨v,hv,M?⟩:=(i3 a _ s ga hs b).1 h2;rw[hs]at hu;cases hu;rw[ht]at hv;cases hv;have:=zcs h ((cR s).1 HC) ((cR t).1 htm) R? M?;subst this;obtain⟨p1,p2⟩:=zG.1 hs;obtain⟨q1,q2⟩:=zG.1 ht;have:=(List.getElem_inj n2.asc.nodup).1 (p2.trans q2.symm);omega
   have hok0:∀a∈c0,a<4096/\a≠0:=fun a ha=>⟨i2 a ha,fun e=>by obtain⟨j,hj,e2⟩:=List.mem_iff_getElem.1 ha;have:=tJ j a (by rw[List.getElem?_eq_getElem hj,e2]);rw[e]at this;simp at this⟩;obtain⟨ws,f1,f2,f3⟩:=z3d (c0:=c0) (by omega) Xi hok0 hn;simp only[ZM,bG,zD,ui,f1,aP,yA];by_cases CM:(ws.length:Int)>256;simp only[CM,yC,zC];exact⟨_,rfl,fun h=>by cases h⟩;simp only[CM,yB,zD];have bA:ws.length<=256:=by omega
   have:=jR (l:=ws) (by omega) (F:=fun m z (s:I dQ)=>PK d n all (c0.map bt) (ws.map bt) m z s) (fun i s=>CI (fun w=>Qs n d all (c0.map bt) (bt w)) (ws.take i) s) (Q:=fun r=>r.2=0->AB d/\HT d r.1)
    (fun m' i w s hx aE dL xP jU lH=>by
     have FL:=zX hx;have okw:=f2.ok w FL;obtain⟨t,t1,t2⟩:=qzc h fA (c0:=c0) i1 i2 okw.1 hn;have Vw:(ws.map bt)[i]? = some (bt w):=by rw[List.getElem?_map,hx];rfl
     have K4:=jU.len;rw[List.length_take]at K4;simp only[PK,yA,dL,zC,cH,Vw,aP,t1];refine Uz (w:=w) (s:=t) jU (by omega) (fun v hv=>(f2.ok v (List.mem_of_mem_take hv)).1) okw.1 t1 hn (fun l' FT=>?_) n s.length (by omega) (by omega) (by simp);rw[xP];rw[<-j5 hx]at FT;exact lH l' FT)
    (fun m' s dL jU=>by
     rw[zW (zF _)]at jU;simp only[PK,yA,dL,zD,uh];have f0:0<ws.length:=by
      have FR:0<d.length:=by have:=h.one;rcases d with _|⟨x,d⟩;simp at this;simp
      obtain⟨x,hx,gU⟩:=eI (l:=d) FR;have:=(cR x.Name).2 ⟨x,gU,rfl⟩;have:=List.length_pos_of_mem this;obtain⟨t,ht⟩:=f2.pre;rw[ht,zU];omega
     have C6:∃w0,(∃x∈s,x.Code=bt w0)/\∀x∈s,w0&&&cw x.Code=cw x.Code:=by
      obtain⟨s0,q1,q2⟩:=XO h;obtain⟨j,hj,e⟩:=List.mem_iff_getElem.1 ((cR s0).2 q1);have B5:j<c0.length:=by omega
      obtain⟨p,hp⟩:=f2.pre;have FL:c0[j]∈ws:=by rw[hp];exact List.mem_append_left _ (List.getElem_mem B5)
      obtain⟨x,hx,hxc,_⟩:=jU.nam _ FL;have full:∀i,i<all.length->(c0[j]).testBit i=true:=fun i hi=>by obtain⟨u,hu,NA⟩:=eI hi;exact(i3 j _ s0 (List.getElem?_eq_getElem B5) (by rw[List.getElem?_eq_getElem hj,e]) i).2 ⟨u,hu,q2 u ((cR u).1 NA)⟩
      refine⟨c0[j],⟨x,hx,hxc⟩,fun y hy=>?_⟩;obtain⟨w,hw,ew⟩:=jU.cod y hy;rw[ew,IW];obtain⟨_,_,b,hb,uQ⟩:=f2.ok w hw;refine Nat.eq_of_testBit_eq fun i=>?_;rw[Nat.testBit_and];rcases bq:w.testBit i with _|_
      simp;have A0:b.testBit i=true:=by have:=congrArg (fun z=>z.testBit i) uQ;simp only[Nat.testBit_and,bq,Bool.true_and]at this;exact this
      obtain⟨k,hk,e2⟩:=List.mem_iff_getElem.1 hb;obtain⟨t,ht,_⟩:=eI (l:=all) (show k<all.length by omega);obtain⟨u,hu,_⟩:=(i3 k b t (by rw[List.getElem?_eq_getElem hk,e2]) ht i).1 A0;rw[full i (zG.1 hu).1];rfl
     refine⟨_,rfl,fun _=>⟨h,⟨_,c0,ws,f2,f3 bA,jU,bA,f0⟩,fun t ht=>?_,C6⟩⟩;obtain⟨j,hj,e⟩:=List.mem_iff_getElem.1 ((cR t).2 ht);have B5:j<c0.length:=by omega
     obtain⟨p,hp⟩:=f2.pre;have FL:c0[j]∈ws:=by rw[hp];exact List.mem_append_left _ (List.getElem_mem B5)
     obtain⟨x,hx,_,e2⟩:=jU.nam _ FL;refine⟨x,hx,?_⟩;obtain⟨s2,t1,t2⟩:=qzc h fA (c0:=c0) i1 i2 (f2.ok _ FL).1 hn;rw[t1]at e2;rw[<-Option.some.inj e2];exact t2 j t Xi (List.getElem?_eq_getElem B5) (by rw[List.getElem?_eq_getElem hj,e])) n 0 [] (by omega) (by omega) ⟨by simp,by simp,List.Pairwise.nil⟩
   rw[zV]at this;exact this) n 0 [] (by omega) (by omega) ⟨rfl,by simp,fun j w t hj=>by simp at hj⟩
 rw[zV]at this;obtain⟨r,h1,h2⟩:=this;exact⟨r.1,r.2,h1,h2⟩;have:(e != 0)=true:=by simpa using he
 simp only[this,zC];exact⟨[],e,rfl,fun h=>absurd h he⟩
variable{n:Nat}
def z09{x:bL}(hx:x.Feats.length<=256)(s:Str)(hn:5000<=n):∃r,Rf n x s=some r/\(r.2=true->∃f∈x.Feats,f.Feat=s/\f.Value=r.1):=by
 have:=jR (l:=x.Feats) (by omega) (F:=fun m z (_:Unit)=>ZI x s m z) (fun _ _=>True) (Q:=fun r=>r.2=true->∃f∈x.Feats,f.Feat=s/\f.Value=r.1)
  (fun m i f _ hf aE bG hw _ ih=>by simp only[ZI,bG,zC,cH,hf,aP,LI,hw];by_cases e:f.Feat=s;simp only[e,yC,zC];exact⟨_,rfl,fun _=>⟨f,zX hf,e,rfl⟩⟩;simp only[e,yB,zD];exact ih () trivial)
  (fun m _ bG _=>by simp only[ZI,bG,zD,my];exact⟨_,rfl,fun h=>by cases h⟩) n 0 () (by omega) (by omega) trivial
 rw[zV]at this;exact this
variable{l:I dQ}
def rl(hl:l.length<=256)(s:Str)(hn:5000<=n):∃r,If n l s=some r/\((∃x∈l,x.Name=s)->∃j:Nat,r=(j:Int)/\j<l.length):=by
 have:=jR (l:=l) (by omega) (F:=fun m z (_:Unit)=>ZU l s m z) (fun i _=>∀x∈l.take i,x.Name≠s) (Q:=fun r=>(∃x∈l,x.Name=s)->∃j:Nat,r=(j:Int)/\j<l.length)
  (fun m i x _ hx aE bG hw hI ih=>by
   simp only[ZU,bG,zC,cH,hx,aP,LI,hw];by_cases e:x.Name=s;simp only[e,yC,zC];exact⟨_,rfl,fun _=>⟨i,rfl,aE⟩⟩;simp only[e,yB,zD];refine ih () fun y hy=>?_;rw[j5 hx]at hy;rcases yD.1 hy with hy |hy
   exact hI y hy;simp at hy;subst hy;exact e)
  (fun m _ bG hI=>by rw[zW (zF _)]at hI;simp only[ZU,bG,zD,sj];exact⟨_,rfl,fun⟨x,hx,e⟩=>absurd e (hI x hx)⟩) n 0 () (by omega) (by omega) (by simp)
 rw[zV]at this;exact this
variable{d:I bL}
def z7p(hd:d.length<=12)(hf:∀x∈d,x.Feats.length<=256)(hn:5000<=n):∃f,Z3 n d=some f/\fV f/\f.length<=3072/\∀s∈f,∃x∈d,∃y∈x.Feats,y.Feat=s:=by
 have:=jR (l:=d) (by omega) (F:=fun m z s=>MR d n m s z) (fun i s=>fV s/\s.length<=256*i/\∀t∈s,∃x∈d,∃y∈x.Feats,y.Feat=t) (Q:=fun f=>fV f/\f.length<=3072/\∀s∈f,∃x∈d,∃y∈x.Feats,y.Feat=s)
  (fun m i x s hx aE bG hw hI ih=>by
   obtain⟨i1,i2,i3⟩:=hI;have gU:=zX hx;have hxf:=hf x gU;simp only[MR,bG,zC];have:=jR (l:=x.Feats) (by omega) (F:=fun m' z s'=>ZJ d n i (MR d n m) m' s' z) (fun k s'=>fV s'/\s'.length<=s.length+k/\∀t∈s',∃x∈d,∃y∈x.Feats,y.Feat=t) (Q:=fun f=>fV f/\f.length<=3072/\∀s∈f,∃x∈d,∃y∈x.Feats,y.Feat=s)
    (fun m' k y s' hy tM dL xP jU lH=>by obtain⟨j1,j2,j3⟩:=jU;obtain⟨o,h1,h2,h3,h4⟩:=Gb (l:=s') (by omega) j1 y.Feat (show s'.length<n by omega);simp only[ZJ,cH,hx,aP,dL,zC,hy,h1,xP];refine lH o ⟨h4,by omega,fun t ht=>?_⟩;rcases(h2 t).1 ht with rfl |ht;exact⟨x,gU,y,zX hy,rfl⟩;exact j3 t ht)
    (fun m' s' dL jU=>by obtain⟨j1,j2,j3⟩:=jU;simp only[ZJ,cH,hx,aP,dL,zD,ub,hw];exact ih s' ⟨j1,by omega,j3⟩) n 0 s (by omega) (by omega) ⟨i1,by omega,i3⟩
   rw[zV]at this;exact this)
  (fun m s bG hI=>by simp only[MR,bG,zD,uc];exact⟨s,rfl,hI.1,by have:=hI.2.1;omega,hI.2.2⟩) n 0 [] (by omega) (by omega) ⟨List.Pairwise.nil,by simp,by simp⟩
 rw[zV]at this;exact this
def z0u(s:Str)(hn:40<=n):∃r,ZF n s=some r:=by obtain⟨r,h1,_⟩:=qzd s true hn;exact⟨r,by simp[ZF,h1,aP]⟩
def G6(d:I bL)(n:Nat)(x:bL):Prop:=∀f∈x.Feats,ZF n f.Feat=some true/\lK d f.Value
def qpc(h:AB d)(hn:5000<=n):∃e,Ua n d=some e/\(e=0->∀x∈d,G6 d n x):=by
 have hd:=h.len;obtain⟨all,n1,n2⟩:=names_ok (d:=d) (by omega) hn;have fA:all.length<=12:=by have:=n2.len;simp at this;omega
 have cR:∀s,s∈all↔lK d s:=fun s=>by rw[n2.mem];simp[lK,List.mem_map]
 have:=jR (l:=d) (by omega) (F:=fun m z (_:Unit)=>F7 d n all m z) (fun i _=>∀x∈d.take i,G6 d n x) (Q:=fun e=>e=0->∀x∈d,G6 d n x)
  (fun m i x _ hx aE bG hw hI ih=>by
   have hxf:=(h.siz x (zX hx)).2;simp only[F7,bG,zC,cH,hx,aP];have:=jR (l:=x.Feats) (by omega) (F:=fun m' z (_:Unit)=>N4 n all i (F7 d n all m) x m' z) (fun k _=>∀f∈x.Feats.take k,ZF n f.Feat=some true/\lK d f.Value) (Q:=fun e=>e=0->∀x∈d,G6 d n x)
    (fun m' k f _ hf tM dL xP jU lH=>by
     obtain⟨r,r1⟩:=z0u f.Feat (n:=n) (by omega);simp only[N4,dL,zC,cH,hf,aP,r1];rcases r with _|_;exact⟨1,rfl,fun h=>by cases h⟩;simp only[Bool.not_true,zD];have hk:((k:Int)<=(x.Feats.length:Int)):=by omega
     have key:∀(m3 j:Nat),k-j<m3->j<=k->∃e,Ka n all x k (N4 n all i (F7 d n all m) x m') m3 j=some e/\(e=0->∀x∈d,G6 d n x):=by
      intro m3;induction m3 with
      |zero=>intro j hm;omega|succ m3 bk=>
       intro j hm hj;unfold Ka;by_cases nQ:j<k;obtain⟨g,hg,_⟩:=eI (l:=x.Feats) (show j<x.Feats.length by omega);have e0:decide ((j:Int)<(k:Int))=true:=by simp;omega
       have e1:IntKind.i64.wrap ((j:Int)+1)=((j+1:Nat):Int):=GK (by omega) (by omega);simp only[e0,zC,cH,hg,hf,aP,e1];rcases lQ g.Feat f.Feat with _|_;exact bk (j+1) (by omega) (by omega);exact⟨4,rfl,fun h=>by cases h⟩;have e0:decide ((j:Int)<(k:Int))=false:=by simp;omega
       simp only[e0,zD,gl,cH,hf,aP,OV (l:=all) (by omega) f.Value (n:=n) (by omega),xP];by_cases C9:f.Value∈all;simp only[C9,yC,Bool.not_true,zD];refine lH () fun y hy=>?_;rw[j5 hf]at hy;rcases yD.1 hy with hy |hy
       exact jU y hy;simp at hy;subst hy;exact⟨r1,(cR _).1 C9⟩;simp only[C9,yB,Bool.not_false,zC];exact⟨5,rfl,fun h=>by cases h⟩
     have:=key n 0 (by omega) (by omega);rw[zV]at this;exact this)
    (fun m' _ dL jU=>by
     rw[zW (zF _)]at jU;simp only[N4,dL,zD,gm,hw];refine ih () fun y hy=>?_;rw[j5 hx]at hy;rcases yD.1 hy with hy |hy
     exact hI y hy;simp at hy;subst hy;exact jU) n 0 () (by omega) (by omega) (by simp)
   rw[zV]at this;exact this)
  (fun m _ bG hI=>by rw[zW (zF _)]at hI;simp only[F7,bG,zD,gp];exact⟨0,rfl,fun _=>hI⟩) n 0 () (by omega) (by omega) (by simp)
 rw[zV]at this;simp only[Ua,n1,aP];exact this
def qyy(h:AB d)(s:Str)(hn:5000<=n):∃r,Rg n d s=some r:=by
 have hd:=h.len;have:=jR (l:=d) (by omega) (F:=fun m z t=>PJ d s n m t z) (fun i t=>fV t/\t.length<=i) (Q:=fun _=>True)
  (fun m i x t hx aE bG hw hI ih=>by
   obtain⟨i1,i2⟩:=hI;obtain⟨r,r1,_⟩:=z09 (h.siz x (zX hx)).2 s hn;simp only[PJ,bG,zC,cH,hx,aP,r1,Sz,hw];cases r.2 with
   |true=>obtain⟨o,h1,h2,h3,h4⟩:=Gb (l:=t) (by omega) i1 x.Name (show t.length<n by omega);simp only[zC,h1,aP];exact ih o ⟨h4,by omega⟩
   |false=>exact ih t ⟨i1,by omega⟩)
  (fun m t bG hI=>by
   obtain⟨out,m1,m2,m3⟩:=qrt h (l:=t) (by have:=hI.2;omega) hn;simp only[PJ,bG,zD,mz,m1,aP];by_cases e:(out.length:Int)=1;obtain⟨x,hx,_⟩:=eI (l:=out) (show 0<out.length by omega);have h0:aB out 0=some x:=by rw[<-hx];exact cH 0
   simp only[e,bne_self_eq_false,zD,h0,aP];exact⟨_,rfl,trivial⟩;have:((out.length:Int) != 1)=true:=by simpa using e
   simp only[this,zC];exact⟨_,rfl,trivial⟩) n 0 [] (by omega) (by omega) ⟨List.Pairwise.nil,by simp⟩
 rw[zV]at this;obtain⟨r,h1,_⟩:=this;exact⟨r,h1⟩
def vt(h:HT d l){i j:Nat}(hi:i<l.length)(hj:j<l.length)(hn:5000<=n):∃b,TD n l i j=some b:=by obtain⟨x,hx,gU⟩:=eI hi;obtain⟨y,hy,C4⟩:=eI hj;obtain⟨a,a1,a2,_⟩:=h.cod x gU;obtain⟨b,b1,b2,_⟩:=h.cod y C4;simp only[TD,cH,hx,hy,aP,a1,b1,ow b2 a2 (show 5<=n by omega)];exact⟨_,rfl⟩
def qnv(h:AB d)(hl:HT d l)(hv:∀x∈d,∀f∈x.Feats,lK d f.Value){t:Nat}(ht:t<l.length)(s:Str)(hn:5000<=n):∃w b,Jj n d l t s=some (bt w,b)/\w<4096:=by
 have hd:=h.len;have B4:=hl.len;obtain⟨x0,vT,D?⟩:=eI (l:=l) B4.2;obtain⟨w0,a1,a2,_⟩:=hl.cod x0 D?;have:=jR (l:=d) (by omega) (F:=fun m z (s':Bool×Nat)=>TM d l t s n m s'.1 (bt s'.2) z) (fun _ s'=>s'.2<4096) (Q:=fun r=>∃w b,r=(bt w,b)/\w<4096)
  (fun m i x s' hx aE bG hw hI ih=>by have gU:=zX hx;obtain⟨r,r1,r2⟩:=z09 (h.siz x gU).2 s hn;simp only[TM,bG,zC,cH,hx,aP,r1,hw];rcases hr:r.2 with _|_;simp only[Bool.not_false,zC,aP];exact ih s' hI;obtain⟨p,p1,p2⟩:=rl (l:=l) (by omega) x.Name hn;obtain⟨j,rfl,hj⟩:=p2 (hl.dcl _ ⟨x,gU,rfl⟩);obtain⟨b,b1⟩:=vt hl hj ht hn;simp only[Bool.not_true,zD,p1,aP,b1];rcases b with _|_;simp only[Bool.not_false,zC];exact ih s' hI;obtain⟨f,hf,_,e2⟩:=r2 hr;obtain⟨q,q1,q2⟩:=rl (l:=l) (by omega) r.1 hn;obtain⟨k,rfl,hk⟩:=q2 (hl.dcl _ (e2 ▸ hv x gU f hf));obtain⟨y,hy,C4⟩:=eI hk;obtain⟨v,v1,v2,_⟩:=hl.cod y C4;simp only[Bool.not_true,zD,q1,aP,cH,hy,v1,z9f hI v2 (show 5<=n by omega)];exact ih (true,s'.2&&&v) (Nat.lt_of_le_of_lt Nat.and_le_left hI))
  (fun m s' bG hI=>by simp only[TM,bG,zD,pw];exact⟨_,rfl,s'.2,s'.1,rfl,hI⟩) n 0 (false,w0) (by omega) (by omega) a2
 rw[zV]at this;obtain⟨r,h1,w,b,rfl,h2⟩:=this;have h0:aB l 0=some x0:=by rw[<-vT];exact cH 0
 exact⟨w,b,by simp only[Jj,h0,aP,a1];exact h1,h2⟩
structure LY(d:I bL)(n:Nat)(l:I dQ)(f:I Str):Prop where
 dok:AB d
 cod:P3 n d=some (l,0)
 cok:HT d l
 fea:Z3 n d=some f
 asc:fV f
 len:f.length<=64
 val:∀x∈d,G6 d n x
 mem:∀s∈f,∃x∈d,∃y∈x.Feats,y.Feat=s
def quw(hd:d.length<=12)(hn:5000<=n):∃e,T5 n d=some e/\(e=0->∃l f,LY d n l f):=by
 obtain⟨l,e,c1,c2⟩:=z7h hd hn;simp only[T5,c1,aP];by_cases he:e=0;subst he;obtain⟨h,hl⟩:=c2 rfl;have B4:=hl.len;obtain⟨f,f1,f2,f3,f4⟩:=z7p hd (fun x hx=>(h.siz x hx).2) hn;simp only[bne_self_eq_false,zD,f1,aP];by_cases tU:(f.length:Int)>64;simp only[tU,yC,zC];exact⟨7,rfl,fun h=>by cases h⟩;obtain⟨e2,d1,d2⟩:=qpc h hn;simp only[tU,yB,zD,d1,aP];by_cases he2:e2=0;subst he2;have hv:=d2 rfl;have HF:LY d n l f:=⟨h,c1,hl,f1,f2,by omega,hv,f4⟩;simp only[bne_self_eq_false,zD];have:=jR (l:=f) (by omega) (F:=fun m z (_:Unit)=>ZL d n (l,0) f m z) (fun _ _=>True) (Q:=fun e=>e=0->∃l f,LY d n l f)
  (fun m i s _ hs aE bG hw _ ih=>by obtain⟨r,r1⟩:=qyy h s hn;simp only[ZL,bG,zC,cH,hs,aP,r1,hw];rcases r.2 with _|_;exact⟨10,rfl,fun h=>by cases h⟩;exact ih () trivial)
  (fun m _ bG _=>by
   simp only[ZL,bG,zD,uf];have:=jR (l:=l) (by omega) (F:=fun m z (_:Unit)=>MS d n (l,0) f m z) (fun _ _=>True) (Q:=fun e=>e=0->∃l f,LY d n l f)
    (fun m t _ _ _ tM dL xP _ lH=>by
     simp only[MS,dL,zC];have:=jR (l:=f) (by omega) (F:=fun m' z (_:Unit)=>ZK d n (l,0) f t (MS d n (l,0) f m) m' z) (fun _ _=>True) (Q:=fun e=>e=0->∃l f,LY d n l f)
      (fun m' i s _ hs hlt3 Kz hw3 _ bk=>by
       obtain⟨w,b,i1,_⟩:=qnv h hl (fun x hx y hy=>(hv x hx y hy).2) tM s hn;simp only[ZK,Kz,zC,cH,hs,aP,i1,hw3];rcases b with _|_;exact bk () trivial;simp only[zC,aP];cases (((bt w).length:Int)==0)with
       |true=>exact⟨11,rfl,fun h=>by cases h⟩|false=>exact bk () trivial)
      (fun m' _ Kz _=>by simp only[ZK,Kz,zD,ud,xP];exact lH () trivial) n 0 () (by omega) (by omega) trivial
     rw[zV]at this;exact this)
    (fun m _ dL _=>by simp only[MS,dL,zD,ue];exact⟨0,rfl,fun _=>⟨l,f,HF⟩⟩) n 0 () (by omega) (by omega) trivial
   rw[zV]at this;exact this) n 0 () (by omega) (by omega) trivial
 rw[zV]at this;exact this;have:(e2 != 0)=true:=by simpa using he2
 simp only[this,zC];exact⟨e2,rfl,fun h=>absurd h he2⟩;have:(e != 0)=true:=by simpa using he
 simp only[this,zC];exact⟨e,rfl,fun h=>absurd h he⟩
def z7r(hl:HT d l){w:Nat}(hn:5000<=n):∃r,Qu n l (bt w)=some r:=by
 have B4:=hl.len;have:=jR (l:=l) (by omega) (F:=fun m z (_:Unit)=>ZD l n (bt w) m z) (fun _ _=>True) (Q:=fun _=>True)
  (fun m i x _ hx aE bG hw _ ih=>by
   obtain⟨a,a1,_⟩:=hl.cod x (zX hx);simp only[ZD,bG,zC,cH,hx,aP,a1,na (a:=a) (b:=w) (n:=n) (by omega),hw];cases decide (a=w)with
   |true=>exact⟨_,rfl,trivial⟩|false=>exact ih () trivial)
  (fun m _ bG _=>by simp only[ZD,bG,zD,lw];exact⟨_,rfl,trivial⟩) n 0 () (by omega) (by omega) trivial
 rw[zV]at this;obtain⟨r,h1,_⟩:=this;exact⟨r,by simp only[Qu,zc3 (w:=w) (n:=n) (by omega),aP];exact h1⟩
def z6m(hd:d.length<=12)(hn:5000<=n):∃v e,Ig n d=some (v,e)/\(e=0->∃l f,LY d n l f/\v.length=l.length):=by
 obtain⟨e,c1,c2⟩:=quw hd hn;simp only[Ig,c1,aP];by_cases he:e=0;subst he;obtain⟨l,f,h⟩:=c2 rfl;have B4:=h.cok.len;have xS:=h.len;simp only[bne_self_eq_false,zD,h.cod,h.fea,aP];have:=jR (l:=l) (by omega) (F:=fun m z s=>JF d n (l,0) f m z s) (fun i s=>s.length=i) (Q:=fun r=>r.2=0->∃l f,LY d n l f/\r.1.length=l.length)
  (fun m t _ s _ aE bG hw hI ih=>by
   simp only[JF,bG,zC];have:=jR (l:=f) (by omega) (F:=fun m' z s'=>PP d n (l,0) f t s (JF d n (l,0) f m) m' z s') (fun i s'=>s'.length<=i) (Q:=fun r=>r.2=0->∃l f,LY d n l f/\r.1.length=l.length)
    (fun m' i x s' hx tM dL xP jU lH=>by
     obtain⟨w,b,i1,_⟩:=qnv h.dok h.cok (fun x hx y hy=>(h.val x hx y hy).2) aE x hn;simp only[PP,dL,zC,cH,hx,aP,i1,Ti,xP];cases b with
     |true=>obtain⟨r,r1⟩:=z7r h.cok (w:=w) hn;simp only[zC,r1,aP];rw[fO (by omega)];exact lH _ (by simp;omega)
     |false=>exact lH s' (by omega))
    (fun m' s' dL jU=>by simp only[PP,dL,zD,sk,hw];rw[fO (by omega)];exact ih _ (by simp;omega)) n 0 [] (by omega) (by omega) (by simp)
   rw[zV]at this;exact this)
  (fun m s bG hI=>by simp only[JF,bG,zD,sn];exact⟨_,rfl,fun _=>⟨l,f,h,hI⟩⟩) n 0 [] (by omega) (by omega) (by simp)
 rw[zV]at this;obtain⟨r,h1,h2⟩:=this;exact⟨r.1,r.2,h1,h2⟩;have:(e != 0)=true:=by simpa using he
 simp only[this,zC];exact⟨[],e,rfl,fun h=>absurd h he⟩
def z1q(h:HT d l){t:Nat}(ht:t<l.length)(hn:5000<=n):∃r,yn n l t=some r:=by
 have B4:=h.len;have:=jR (l:=l) (by omega) (F:=fun m z s=>F6 l t n m z s) (fun i s=>s.length<=i) (Q:=fun _=>True)
  (fun m k _ s _ aE bG hw hI ih=>by
   obtain⟨b,b1⟩:=vt h aE ht hn;simp only[F6,bG,zC,b1,aP,hw];have go:∃r,TH l t n k s (F6 l t n m) n true 0=some r/\True:=by
    have:=jR (l:=l) (by omega) (F:=fun m' z b=>TH l t n k s (F6 l t n m) m' b z) (fun _ _=>True) (Q:=fun _=>True)
     (fun m' i _ b _ tM dL xP _ lH=>by
      obtain⟨b1,g1⟩:=vt h aE tM hn;obtain⟨b2,g2⟩:=vt h tM ht hn;simp only[TH,dL,zC,xP,g1,g2,aP];rcases b with _|_;exact lH false trivial;cases ((i:Int)==(t:Int))with
      |true=>exact lH true trivial|false=>cases ((i:Int)==(k:Int))with|true=>exact lH true trivial|false=>rcases b1 with _|_;exact lH true trivial;exact lH _ trivial)
     (fun m' b dL _=>by
      simp only[TH,dL,zD,so,Tm,hw];cases b with
      |true=>simp only[zC];rw[fO (by omega)];exact ih _ (by simp;omega)|false=>exact ih s (by omega)) n 0 true (by omega) (by omega) trivial
    rw[zV]at this;exact this
   cases ((k:Int)==(t:Int))with|true=>simp only[zC,aP];exact ih s (by omega)|false=>simp only[zD,aP];rcases b with _|_;simp only[Bool.not_false,zC];exact ih s (by omega);simp only[Bool.not_true,zD];exact go)
  (fun m s bG hI=>by simp only[F6,bG,zD,sr];exact⟨_,rfl,trivial⟩) n 0 [] (by omega) (by omega) (by simp)
 rw[zV]at this;obtain⟨r,h1,_⟩:=this;exact⟨r,h1⟩
def qxc(hn:5000<=n){f:I Str}(h:LY d n l f)(hc:T5 n d=some 0):∃r,Ta n d=some (r,0)/\r.map eB.Name=f:=by
 have B4:=h.cok.len;have xS:=h.len;have:=jR (l:=f) (by omega) (F:=fun m z s=>ZZ d n (l,0) f m z s) (fun i s=>s.map eB.Name=f.take i) (Q:=fun r=>r.2=0/\r.1.map eB.Name=f)
  (fun m i x s hx aE bG hw hI ih=>by
   obtain⟨r,r1⟩:=qyy h.dok x hn;obtain⟨q,q1,_⟩:=rl (l:=l) (by omega) r.1 hn;have K4:s.length=i:=by have:=congrArg List.length hI;simp at this;omega
   simp only[ZZ,bG,zC,cH,hx,aP,r1,q1,hw];rw[fO (by omega)];exact ih _ (by rw[List.map_append,hI,j5 hx];rfl))
  (fun m s bG hI=>by rw[zW (zF _)]at hI;simp only[ZZ,bG,zD,po];exact⟨_,rfl,rfl,hI⟩) n 0 [] (by omega) (by omega) (by simp)
 rw[zV]at this;obtain⟨r,h1,h2,h3⟩:=this;refine⟨r.1,?_,h3⟩;simp only[Ta,hc,aP,bne_self_eq_false,zD,h.cod,h.fea,h1];rw[<-h2]
structure tq(d:I bL)(n:Nat)(h:cB):Prop where
 ex:∃l f,LY d n l f/\h.Types.map dI.Code=l.map dQ.Code/\h.Feats.map eB.Name=f
def z0q(hd:d.length<=12)(hn:5000<=n):∃h e,P9 n d=some (h,e)/\(e=0->tq d n h)/\(e≠0->h=⟨[],[]⟩):=by
 obtain⟨v,e,v1,v2⟩:=z6m hd hn;simp only[P9,v1,aP];by_cases he:e=0;subst he;obtain⟨l,f,h,hv⟩:=v2 rfl;have B4:=h.cok.len;have hc:T5 n d=some 0:=by
  obtain⟨e,c1,c2⟩:=quw hd hn;by_cases h0:e=0;rw[c1,h0];have:(e != 0)=true:=by simpa using h0
  simp only[Ig,c1,aP,this,zC,zA,zB]at v1;exact absurd v1.2 h0
 obtain⟨fs,g1,g2⟩:=qxc hn h hc;simp only[bne_self_eq_false,zD,h.cod,aP];have:=jR (l:=l) (by omega) (F:=fun m z s=>ZX d n (v,0) (l,0) m z s) (fun i s=>s.map dI.Code=(l.take i).map dQ.Code) (Q:=fun r=>r.2=0/\tq d n r.1)
  (fun m i x s hx aE bG hw hI ih=>by
   obtain⟨r,r1⟩:=z1q h.cok aE hn;obtain⟨y,hy,_⟩:=eI (l:=v) (show i<v.length by omega);have K4:s.length=i:=by have:=congrArg List.length hI;simp at this;omega
   simp only[ZX,bG,zC,cH,hx,hy,aP,r1,hw];rw[fO (by omega)];exact ih _ (by rw[List.map_append,hI,j5 hx,List.map_append];rfl))
  (fun m s bG hI=>by rw[zW (zF _)]at hI;simp only[ZX,bG,zD,pb,g1,aP];exact⟨_,rfl,rfl,⟨l,f,h,hI,g2⟩⟩) n 0 [] (by omega) (by omega) (by simp)
 rw[zV]at this;obtain⟨r,h1,h2,h3⟩:=this;exact⟨r.1,r.2,h1,fun _=>h3,fun h=>absurd h2 h⟩;have:(e != 0)=true:=by simpa using he
 simp only[this,zC];exact⟨_,e,rfl,fun h=>absurd h he,fun _=>rfl⟩
end Go.Proofs
namespace Go.Proofs
open Go Go.Rx Go.Vx
set_option maxRecDepth 10000
structure pD(h:cB)(ws:I Nat):Prop where
 cod:h.Types.map dI.Code=ws.map bt
 ok:∀w∈ws,w≠0/\w<4611686018427387904
 nod:ws.Nodup
 cls:R4 ws
 len:ws.length<=1000
 pos:0<ws.length
 fl:h.Feats.length<=1000
 top:∀w∈ws,(ws[0]?).getD 0&&&w=w
variable{h:cB}
variable{ws:I Nat}
def pD.tl(hh:pD h ws):h.Types.length=ws.length:=by have:=congrArg List.length hh.cod;simpa using this
def pD.at{h:cB}{ws:I Nat}(hh:pD h ws){i:Nat}{w:Nat}(hi:ws[i]? = some w):∃t,h.Types[i]? = some t/\t.Code=bt w:=by
 have h1:(h.Types.map dI.Code)[i]? = some (bt w):=by rw[hh.cod,List.getElem?_map,hi];rfl
 rw[List.getElem?_map]at h1;rcases e:h.Types[i]? with _|t;rw[e]at h1;cases h1;rw[e]at h1;exact⟨t,rfl,Option.some.inj h1⟩
variable{n:Nat}
def z78(w:Nat)(hn:5<=n):yk n [(w:Int)]=some (bt w):=by
 obtain⟨k,rfl⟩:=Nat.exists_eq_add_of_le' hn;have e0:IntKind.i64.wrap ((1:Int)-1)=0:=wr (z:=0) (by omega) (by omega);have e1:aB [(w:Int)] 0=some (w:Int):=rfl;have c0:sW [(w:Int)] 0 0=some []:=rfl;have c1:sW [(w:Int)] 0 1=some [(w:Int)]:=rfl;have e2:decide ((1:Int)>0)=true:=rfl;have e3:decide ((0:Int)>0)=false:=rfl;show ZS [(w:Int)] (k+5) 1=_;rw[ZS,e2,zC,e0,e1,aP,aP];by_cases hw:w=0;have:((w:Int)==0)=true:=by simp[hw]
 rw[this,zC,ZS,e3,zD,aP,zD,Th,c0,hw];rfl;have:((w:Int)==0)=false:=by simp[hw]
 rw[this,zD,Th,c1,sX hw];rfl
variable{a:Nat}
variable{b:Nat}
def zb3(ha:a≠0/\a<4611686018427387904)(hb:b≠0/\b<4611686018427387904)(hn:5<=n):Pz n (bt a) (bt b)=some (bt (a&&&b)):=by obtain⟨k,rfl⟩:=Nat.exists_eq_add_of_le' hn;have h1:=R1 (a:=a) (b:=b) (by omega) (by omega);have h2:=z78 (a&&&b) (n:=k+5) (by omega);rw[sX ha.1,sX hb.1];have e:Pz (k+5) [(a:Int)] [(b:Int)]=Rq [(a:Int)] [(b:Int)] (k+5) [GF .u64 (a:Int) (b:Int)]:=rfl;rw[e,h1,Rq,h2];rfl
def im(ha:a≠0/\a<4611686018427387904)(hb:b≠0/\b<4611686018427387904)(hn:5<=n):Z8 n (bt a) (bt b)=some (decide (a&&&b=a)):=by
 obtain⟨k,rfl⟩:=Nat.exists_eq_add_of_le' hn;obtain⟨c,h1,h2⟩:=Ut (a:=a) (b:=b) (by omega) (by omega);rw[sX ha.1,sX hb.1];have e:Z8 (k+5) [(a:Int)] [(b:Int)]=cond ((SN .u64 (a:Int) (b:Int)) != 0) (some false) (some true):=rfl;rw[e,h1];by_cases hc:c=0;have:=h2.1 hc;simp[hc,this];have:¬ a&&&b=a:=fun q=>hc (h2.2 q);have h3:((c:Int) != 0)=true:=by simpa using hc
 simp[this,h3]
def Ev(ha:a≠0/\a<4611686018427387904)(hb:b≠0/\b<4611686018427387904)(hn:5<=n):Qy n (bt a) (bt b)=some (decide (a=b)):=by
 rw[Qy,im ha hb hn,im hb ha hn];by_cases h:a&&&b=a;by_cases h':b&&&a=b;have:a=b:=by rw[<-h,Nat.and_comm,h']
 simp[h,h',this,aP];have:a≠b:=fun e=>h' (by rw[<-e,Nat.and_self]);simp[h,h',this,aP];have:a≠b:=fun e=>h (by rw[<-e,Nat.and_self]);simp[h,this,aP]
def za1{h:cB}{ws:I Nat}(hh:pD h ws){c:Nat}(hc:c∈ws){n:Nat}(hn:5<=n):∀(m i:Nat),ws.length-i<m->i<=ws.length->(∀(k:Nat),k<i->ws[k]? ≠some c)->∃k:Nat,Kd h.Types (bt c) (Ie n) m (i:Int)=some (k:Int)/\ws[k]? = some c
 |0,i,hm,_,_=>by omega
 |m+1,i,hm,hi,eH=>by
  have hl:=hh.tl;have Wr:=hh.len;obtain⟨q,hq⟩:=List.mem_iff_getElem?.1 hc;have Q2:=(zG.1 hq).1;have aE:i<ws.length:=by rcases Nat.lt_or_ge q i with h1 |h1;exact absurd hq (eH q h1);omega
  obtain⟨w,hw,FL⟩:=eI aE;obtain⟨t,ht,he⟩:=hh.at hw;have h1:=Ev (hh.ok w FL) (hh.ok c hc) hn;simp only[Kd,hl,gS aE,zC,cH,ht,aP,Ie,he,h1];by_cases e:w=c;simp only[e,yC,zC];exact⟨i,rfl,by rw[hw,e]⟩;simp only[e,yB,zD,iG aE (show ws.length<=9223372036854775807 by omega)];exact za1 hh hc hn m (i+1) (by omega) (by omega) (fun k hk=>by by_cases e2:k=i;subst e2;rw[hw];intro q;exact e (Option.some.inj q);exact eH k (by omega))
def zbz(hh:pD h ws){i j:Nat}(hi:ws[i]? = some a)(hj:ws[j]? = some b)(hn:2000<=n):
  (a&&&b=0->HA n h (i:Int) (j:Int)=some (0,false))/\(a&&&b≠0->∃k:Nat,HA n h (i:Int) (j:Int)=some ((k:Int),true)/\ws[k]? = some (a&&&b)):=by
 obtain⟨t,ht,he⟩:=hh.at hi;obtain⟨t',tH,NI⟩:=hh.at hj;have tS:=zX hi;have eh:=zX hj;have h1:=zb3 (hh.ok a tS) (hh.ok b eh) (n:=n) (by omega);simp only[HA,cH,ht,tH,aP,he,NI,h1];constructor;intro h0;rw[h0];rfl;intro h0;have h2:=hh.cls a tS b eh h0;obtain⟨k,h3,h4⟩:=za1 hh h2 (n:=n) (by omega) n 0 (by have:=hh.len;omega) (by omega) (fun k hk=>by omega);rw[zV]at h3;have e1:(((bt (a&&&b)).length:Int)==0)=false:=by rw[sX h0];rfl
 have e2:decide ((k:Int)<0)=false:=by simp
 simp only[e1,zD,gz,h3,aP,e2];exact⟨k,rfl,h4⟩
def eX(ws:I Nat)(t:Int):Nat:=(ws[t.toNat]?).getD 0
def GZ{t:Int}(h:0<=t/\t<(ws.length:Int)):ws[t.toNat]? = some (eX ws t):=by
 have:t.toNat<ws.length:=by omega
 rw[eX,List.getElem?_eq_getElem this];rfl
def Uv(hh:pD h ws){s t:Int}(hs:0<=s/\s<(ws.length:Int))(ht:0<=t/\t<(ws.length:Int))(hn:2000<=n):
  ∃r,HA n h s t=some r/\(r.2=false->eX ws s&&&eX ws t=0)/\(r.2=true->(0<=r.1/\r.1<(ws.length:Int))/\eX ws r.1=eX ws s&&&eX ws t):=by obtain⟨h1,h2⟩:=zbz hh (GZ hs) (GZ ht) hn;rw[show((s.toNat:Nat):Int)=s by omega,show((t.toNat:Nat):Int)=t by omega]at h1 h2;by_cases e:eX ws s&&&eX ws t=0;exact⟨_,h1 e,fun _=>e,fun q=>by cases q⟩;obtain⟨k,h3,h4⟩:=h2 e;refine⟨_,h3,(fun q=>by cases q),fun _=>⟨?_,?_⟩⟩;have:=(zG.1 h4).1;constructor;exact Int.natCast_nonneg _;show(k:Int)<_;omega;show eX ws (k:Int)=_;rw[eX,zZ,h4];rfl
def celN(c:I aT)(i:Nat):aT:=(c[i]?).getD ⟨-1,0,[]⟩
def jX(mt:Int->Int->V Int):Nat->I (Int×Int)->I aT->(Nat->Nat)->(Nat->Nat)->Bool×I aT×(Nat->Nat)×(Nat->Nat)
 |0,_,c,aA,d=>(true,c,aA,d)|_+1,[],c,aA,d=>(true,c,aA,d)
 |k+1,p::W,c,aA,d=>
  if aA p.1.toNat=aA p.2.toNat then jX mt k W c aA d else
  match mt (celN c (aA p.1.toNat)).kind (celN c (aA p.2.toNat)).kind with
  |none=>(false,c,aA,d)|some t=>jX mt k ((prs (celN c (aA p.1.toNat)).arcs (celN c (aA p.2.toNat)).arcs).reverse++W) (xG c (aA p.1.toNat) (aA p.2.toNat) t (J1 (celN c (aA p.1.toNat)).arcs (celN c (aA p.2.toNat)).arcs)) (hH aA (aA p.1.toNat) (aA p.2.toNat)) (GE aA d (aA p.2.toNat))
def uM(n:Nat)(h:cB)(s t:Int):V Int:=match HA n h s t with
 |some (r,true)=>some r|_=>none
def Ou(N:Nat)(p:Int×Int):Prop:=(0<=p.1/\p.1<(N:Int))/\(0<=p.2/\p.2<(N:Int))
def lO.celN{N D:Nat}{FB TB:Int}{cells:I aT}{aA d:Nat->Nat}(h:lO N D FB TB cells aA d){i:Nat}(hi:i<N):cells[i]? = some (celN cells i):=by have h1:=h.len;rw[Go.Proofs.celN,List.getElem?_eq_getElem (by omega)];rfl
variable{N:Nat}
variable{FB:Int}
def Af{a b:I aK}(ha:wK N FB a)(hb:wK N FB b):∀p∈prs a b,Ou N p:=fun p hp=>by
 obtain⟨x,hx,y,hy,_,rfl⟩:=fu hp;exact⟨(ha.ok x hx).2.2,(hb.ok y hy).2.2⟩
structure Rnd(N D:Nat)(FB TB:Int)(W:I (Int×Int))(c:I aT)(aA d:Nat->Nat):Prop where
 hp:lO N D FB TB c aA d
 wi:∀p∈W,Ou N p
variable{D:Nat}
variable{TB:Int}
variable{W:I (Int×Int)}
variable{p:Int×Int}
variable{c:I aT}
variable{aA:Nat->Nat}
variable{d:Nat->Nat}
def Rnd.skip(h:Rnd N D FB TB (p::W) c aA d):Rnd N D FB TB W c aA d:=⟨h.hp,fun q hq=>h.wi q (List.mem_cons_of_mem _ hq)⟩
structure Two(N:Nat)(FB TB:Int)(c:I aT)(aA:Nat->Nat)(m n:Nat):Prop where
 hm:m<N
 hn:n<N
 em:aA m=m
 en:aA n=n
 cm:c[m]? = some (celN c m)
 cn:c[n]? = some (celN c n)
 am:wK N FB (celN c m).arcs
 an:wK N FB (celN c n).arcs
 km:0<=(celN c m).kind/\(celN c m).kind<TB
 kn:0<=(celN c n).kind/\(celN c n).kind<TB
def Rnd.two(h:Rnd N D FB TB (p::W) c aA d):Two N FB TB c aA (aA p.1.toNat) (aA p.2.toNat):=by obtain⟨h1,h2⟩:=h.wi p (by simp);have l1:=h.hp.rok.lt p.1.toNat (by omega);have l2:=h.hp.rok.lt p.2.toNat (by omega);have c1:=h.hp.celN l1;have c2:=h.hp.celN l2;exact⟨l1,l2,h.hp.rok.idem _ (by omega),h.hp.rok.idem _ (by omega),c1,c2,h.hp.ar _ _ c1,h.hp.ar _ _ c2,h.hp.kd _ _ c1,h.hp.kd _ _ c2⟩
def Rnd.next(h:Rnd N D FB TB (p::W) c aA d)(d5:aA p.1.toNat≠aA p.2.toNat){t:Int}(ht:0<=t/\t<TB):
  Rnd N (D+1) FB TB ((prs (celN c (aA p.1.toNat)).arcs (celN c (aA p.2.toNat)).arcs).reverse++W) (xG c (aA p.1.toNat) (aA p.2.toNat) t (J1 (celN c (aA p.1.toNat)).arcs (celN c (aA p.2.toNat)).arcs)) (hH aA (aA p.1.toNat) (aA p.2.toNat)) (GE aA d (aA p.2.toNat)):=by have T:=h.two;have hM:=YY _ _ T.am.up T.an.up;refine⟨h.hp.mrg T.hm T.hn T.em T.en d5 (hM.ok T.am T.an) ht,fun q hq=>?_⟩;rcases yD.1 hq with hq |hq;exact Af T.am T.an q (List.mem_reverse.1 hq);exact h.wi q (List.mem_cons_of_mem _ hq)
def Two.tot{N:Nat}{FB TB:Int}{c:I aT}{aA:Nat->Nat}{m n:Nat}(T:Two N FB TB c aA m n)(d5:m≠n)(t:Int)(W:I (Int×Int)):((prs (celN c m).arcs (celN c n).arcs).reverse++W).length+tot (xG c m n t (J1 (celN c m).arcs (celN c n).arcs))=W.length+tot c:=by have:=zcq T.cm T.cn d5 t (YY _ _ T.am.up T.an.up);simp only[zU,List.length_reverse];omega
def stk(W:I (Int×Int)):I i5:=(W.map pk).reverse
def z93(p:Int×Int)(W:I (Int×Int)):stk (p::W)=stk W++[pk p]:=by simp[stk]
def zcm(W:I (Int×Int))(l:I (Int×Int)):stk W++l.map pk=stk (l.reverse++W):=by simp[stk]
def z6c(W:I (Int×Int)):(stk W).length=W.length:=by simp[stk]
def zai{v11:Type}(l:I v11)(x:v11)(hl:l.length<=1000000000):decide (((l++[x]).length:Int)>0)=true/\IntKind.i64.wrap (((l++[x]).length:Int)-1)=(l.length:Int)/\aB (l++[x]) (l.length:Int)=some x/\(l++[x]).take l.length=l:=by refine⟨by simp,?_,?_,by simp⟩;simp only[zU,zO,zS];exact GK (by omega) (by omega);rw[cH];simp
def xd{h:cB}{ws:I Nat}(hh:pD h ws){s t:Int}(hs:0<=s/\s<(ws.length:Int))(ht:0<=t/\t<(ws.length:Int)){n:Nat}(hn:2000<=n):
  (uM n h s t=none/\(∃r,HA n h s t=some r/\r.2=false)/\eX ws s&&&eX ws t=0)\/(∃r,uM n h s t=some r/\HA n h s t=some (r,true)/\(0<=r/\r<(ws.length:Int))/\eX ws r=eX ws s&&&eX ws t):=by obtain⟨⟨r,b⟩,h1,h2,h3⟩:=Uv hh hs ht hn;rcases b with _|_;exact .inl ⟨by rw[uM,h1],⟨_,h1,rfl⟩,h2 rfl⟩;exact .inr ⟨r,by rw[uM,h1],h1,(h3 rfl).1,(h3 rfl).2⟩
def xp{mt:Int->Int->V Int}{N:Nat}{FB TB:Int}(B3:∀s t r,(0<=s/\s<TB)->(0<=t/\t<TB)->mt s t=some r->0<=r/\r<TB):∀(k:Nat)(W:I (Int×Int))(c:I aT)(aA d:Nat->Nat)(D:Nat),Rnd N D FB TB W c aA d->W.length+tot c<k->
  ∃D',D'+tot (jX mt k W c aA d).2.1<=D+W.length+tot c/\lO N D' FB TB (jX mt k W c aA d).2.1 (jX mt k W c aA d).2.2.1 (jX mt k W c aA d).2.2.2
 |0,W,c,aA,d,D,h,hk=>by omega
 |k+1,[],c,aA,d,D,h,hk=>⟨D,by simp[jX],h.hp⟩|k+1,p::W,c,aA,d,D,h,hk=>by simp only[zO]at hk ⊢;unfold jX;by_cases e:aA p.1.toNat=aA p.2.toNat;rw[if_pos e];obtain⟨D',h1,h2⟩:=xp B3 k W c aA d D h.skip (by omega);exact⟨D',by omega,h2⟩;rw[if_neg e];have T:=h.two;rcases hm:mt (celN c (aA p.1.toNat)).kind (celN c (aA p.2.toNat)).kind with _|t;exact⟨D,by simp,h.hp⟩;have ht:=B3 _ _ _ T.km T.kn hm;have hT:=T.tot e t W;obtain⟨D',h1,h2⟩:=xp B3 k _ _ _ _ (D+1) (h.next e ht) (by omega);exact⟨D',by simp only;omega,h2⟩
def aj{p7:I bH}(hp:p7.length<=1000000){N:Nat}:∀(m:Nat)(tl:I bH)(c:I aT),tl.length<m->tl.length<=1000000->c.length=N->(∀x∈tl,0<=x.atx/\x.atx<(N:Int))->Jy (p7.length:Int) m c (p7++tl)=some (qS tl c,p7)
 |0,tl,c,hm,_,_,_=>by omega
 |m+1,tl,c,hm,hl,hc,ht=>by
  unfold Jy;rcases List.eq_nil_or_concat tl with e |⟨tl,x,e⟩;subst e;have:decide (((p7++[]).length:Int)>(p7.length:Int))=false:=by simp
  rw[this,zD,gi,List.append_nil];rfl;rw[List.concat_eq_append]at e;subst e;rw[<-zT];simp only[zU,zO,zS]at hm hl;obtain⟨h1,h2,h3,h4⟩:=zai (p7++tl) x (by simp only[zU];omega);have hx:=ht x (by simp);have h5:decide (((p7++tl++[x]).length:Int)>(p7.length:Int))=true:=by simp;omega
  obtain⟨y,hy,_⟩:=eI (l:=c) (show x.atx.toNat<c.length by omega);have h6:aB c x.atx=some y:=by rw[show x.atx=((x.atx.toNat:Nat):Int) by omega,cH];exact hy
  rw[h5,zC,h2,h3,aP,h6,aP,aF,if_pos (by simp only[zU,zO,zS];omega),aF,if_pos (by simp only[zU,zO,zS,zZ];omega),zZ,h4,Nat.zero_add,oh];exact aj hp m tl _ (by omega) (by omega) (by simp[hc]) (fun z hz=>ht z (List.mem_append_left _ hz))
def Et{N:Nat}{FB TB:Int}{c:I aT}{aA:Nat->Nat}{m n:Nat}(T:Two N FB TB c aA m n)(d5:m≠n)(t:Int)(o:I aK)(tl:I bH):qS ((tl++[⟨(m:Int),celN c m⟩])++[⟨(n:Int),celN c n⟩]) (xG c m n t o)=qS tl c:=by
 rw[oh,oh];have h1:(c.set m ⟨-1,t,o⟩)[n]? = some (celN c n):=by rw[List.getElem?_set_ne d5];exact T.cn
 simp only[zZ,xG];rw[qzy h1,qzy T.cm]
def Ol{h:cB}{ws:I Nat}(hh:pD h ws){N:Nat}{FB:Int}(J:FB<=1000000000){n:Nat}(hn:100000<=n){p7:I bH}(hp7:p7.length<=100000)(p9:I d6)(c0:I aT):∀(k:Nat)(W:I (Int×Int))(c:I aT)(aA d:Nat->Nat)(D:Nat)(tl:I bH)(t:Nat),
  Rnd N D FB ws.length W c aA d->W.length+tot c<k->D+W.length+tot c<=20000->(∀x∈tl,0<=x.atx/\x.atx<(N:Int))->qS tl c=c0->tl.length+2*(W.length+tot c)<=90000-> ((jX (uM n h) k W c aA d).1=true->∃kF t',N5 h.Types h.Feats p7 p9 n k (stk W) c (p7++tl) t=some (true,(jX (uM n h) k W c aA d).2.1,p7++kF,t')/\qS kF (jX (uM n h) k W c aA d).2.1=c0/\(∀x∈kF,0<=x.atx/\x.atx<(N:Int))/\kF.length+2*tot (jX (uM n h) k W c aA d).2.1<=tl.length+2*(W.length+tot c))/\ ((jX (uM n h) k W c aA d).1=false->∃t',N5 h.Types h.Feats p7 p9 n k (stk W) c (p7++tl) t=some (false,c0,p7,t'))
 |0,W,c,aA,d,D,tl,t,hr,hk,_,_,_,_=>by omega
 |k+1,[],c,aA,d,D,tl,t,hr,hk,hD,pJ,Lb,DF=>by have e:decide (((stk []).length:Int)>0)=false:=rfl;simp only[jX,N5,e,zD,gu];exact⟨fun _=>⟨tl,t,rfl,Lb,pJ,by simp⟩,fun q=>by cases q⟩
 |k+1,p::W,c,aA,d,D,tl,t,hr,hk,hD,pJ,Lb,DF=>by
  simp only[zO]at hk hD DF;obtain⟨HE,B2⟩:=hr.wi p (by simp);obtain⟨h1,h2,h3,h4⟩:=zai (stk W) (pk p) (by rw[z6c];omega);have f1:=nr hr.hp (n:=n) (by omega) HE h.Types h.Feats (p7++tl) p9;have f2:=nr hr.hp (n:=n) (by omega) B2 h.Types h.Feats (p7++tl) p9;have bA:=z6c W;rw[z93];unfold N5;simp only[h1,h2,h3,zC,aP,zZ,h4];rw[aF,if_pos (by simp only[zU,zO,zS];omega),aF,if_pos (by simp only[zU,zO,zS];omega)];simp only[pk,f1,f2,aP];unfold jX;by_cases e:aA p.1.toNat=aA p.2.toNat;have e1:(rI aA p.1==rI aA p.2)=true:=by simp[rI,e]
  simp only[e1,zC];rw[if_pos e];have:=Ol hh J hn hp7 p9 c0 k W c aA d D tl t hr.skip (by omega) (by omega) pJ Lb (by omega);refine⟨fun q=>?_,this.2⟩;obtain⟨kF,t',r1,r2,r3,r4⟩:=this.1 q;exact⟨kF,t',r1,r2,r3,by simp only[zO];omega⟩;have e1:(rI aA p.1==rI aA p.2)=false:=by simp only[rI,beq_eq_false_iff_ne];omega
  have T:=hr.two;have i1:aB c (rI aA p.1)=some (celN c (aA p.1.toNat)):=by rw[rI,cH];exact T.cm
  have i2:aB c (rI aA p.2)=some (celN c (aA p.2.toNat)):=by rw[rI,cH];exact T.cn
  simp only[e1,zD,i1,i2,aP];rw[if_neg e];have eS:=hr.hp.len;rcases xd hh T.km T.kn (n:=n) (by omega)with⟨m1,⟨⟨q1,q2⟩,m2,m3⟩,_⟩|⟨r,m1,m2,m3,_⟩;simp only at m3;subst m3;have hb:=aj (p7:=p7) (by omega) n tl c (by omega) (by omega) eS pJ;have C9:HA n (cB.mk h.Types h.Feats) (celN c (aA p.1.toNat)).kind (celN c (aA p.2.toNat)).kind=some (q1,false):=m2;simp only[m1,C9,aP,Bool.not_false,zC,Jr,hb,Lb];exact⟨(fun q=>by cases q),fun _=>⟨t,rfl⟩⟩;have C9:HA n (cB.mk h.Types h.Feats) (celN c (aA p.1.toNat)).kind (celN c (aA p.2.toNat)).kind=some (r,true):=m2;have ta:=Gr T.cm;have tb:=Gr T.cn;obtain⟨o,j1,j2⟩:=nq T.am T.an J (by omega) (by omega) (n:=n) (by omega) n 0 (celN c (aA p.1.toNat)).arcs (by omega) (by omega) (rV.nilr T.am.up);rw[zV,List.take_zero,z5e,List.map_nil]at j1;have j3:=j2.uniq (YY _ _ T.am.up T.an.up);have jc:Tt n (celN c (aA p.1.toNat)).arcs=some (celN c (aA p.1.toNat)).arcs:=by
   rw[Tt];cases hL:(celN c (aA p.1.toNat)).arcs with
   |nil=>first |rfl |(simp[bothL,hL])
   |cons x l=>rw[bothL];simp only[zC,zD];rw[hL]at ta;rw[aF,if_pos (by omega)]
  have jj:Rr n (celN c (aA p.1.toNat)).arcs (celN c (aA p.2.toNat)).arcs=some (o,(prs (celN c (aA p.1.toNat)).arcs (celN c (aA p.2.toNat)).arcs).map pk):=by rw[Rr,jc,aP,j1]
  have e2:(c.set (0+(rI aA p.1).toNat) (aT.mk (-1) r o))[aA p.2.toNat]? = some (celN c (aA p.2.toNat)):=by rw[rI,zZ,Nat.zero_add,List.getElem?_set_ne e];exact T.cn
  have i3:aB (c.set (0+(rI aA p.1).toNat) (aT.mk (-1) r o)) (rI aA p.2)=some (celN c (aA p.2.toNat)):=by rw[show rI aA p.2=((aA p.2.toNat:Nat):Int)from rfl,cH];exact e2
  simp only[m1,C9,aP,Bool.not_true,zD,jj,ph,pg,i1];rw[aF,if_pos (by simp only[zU];omega)];simp only[aP,i3];rw[aF,if_pos (by simp only[zU,zO,zS];omega)];have nO:=Gu (celN c (aA p.1.toNat)).arcs (celN c (aA p.2.toNat)).arcs;simp only[aP];rw[aF,if_pos (by simp only[yA];omega)];have hT:=T.tot e r W;have ih:=Ol hh J hn hp7 p9 c0 k _ _ _ _ (D+1) ((tl++[⟨rI aA p.1,celN c (aA p.1.toNat)⟩])++[⟨rI aA p.2,celN c (aA p.2.toNat)⟩]) (t+1+1) (hr.next e m3) (by omega) (by omega)
   (fun x hx=>by simp only[yD,zI,List.not_mem_nil,or_false]at hx;rcases hx with(hx |hx)|hx;exact pJ x hx;subst hx;exact hr.hp.rI HE;subst hx;exact hr.hp.rI B2)
   ((Et T e r _ tl).trans Lb) (by simp only[zU,zO,zS];simp only[zU]at hT;omega)
  have ea:p7++tl++[⟨rI aA p.1,celN c (aA p.1.toNat)⟩]++[⟨rI aA p.2,celN c (aA p.2.toNat)⟩]=p7++((tl++[⟨rI aA p.1,celN c (aA p.1.toNat)⟩])++[⟨rI aA p.2,celN c (aA p.2.toNat)⟩]):=by simp
  have ec:(c.set (0+(rI aA p.1).toNat) (aT.mk (-1) r o)).set (0+(rI aA p.2).toNat) (aT.mk (rI aA p.1) 0 [])=xG c (aA p.1.toNat) (aA p.2.toNat) r (J1 (celN c (aA p.1.toNat)).arcs (celN c (aA p.2.toNat)).arcs):=by simp[xG,rI,j3]
  rw[ea,ec,zcm];refine⟨fun q=>?_,ih.2⟩;obtain⟨kF,t',r1,r2,r3,r4⟩:=ih.1 q;refine⟨kF,t',r1,r2,r3,?_⟩;simp only[zU,zO,zS]at r4 hT ⊢;omega
def z43{N D B:Nat}{FB TB:Int}{cells:I aT}{aA d:Nat->Nat}(h:lO N D FB TB cells aA d)(hB:tot cells<=B)(hB2:B<=20000)(hN:N<=1000)(hD:D<=20000)(p2:I dI)(p3:I eB)(p9:I bH)(iH:I d6):∀(n:Nat)(s:I Int×I aM)(v:Int)(w:kG Int Int)(t:Nat),Sn N B s->(0<=v/\v<(N:Int))->Rep w s.1->N-s.1.length+20001<n->
  ∃w' t',TN n v p2 p3 w s.2 t cells p9 iH=some ((vis cells aA n s v).1,w',(vis cells aA n s v).2.2,t')/\Rep w' (vis cells aA n s v).2.1
 |0,s,v,w,t,hs,hv,hw,hn=>by omega
 |n+1,s,v,w,t,hs,hv,hw,hn=>by
  have hf:=nr h (n:=n) (by omega) hv p2 p3 p9 iH;have hr:=h.rI hv;have oN:=hs.le;show ∃w' t',gv n (TN n) v p2 p3 w s.2 t cells p9 iH=_/\_;simp only[gv,hf,aP,hw.mget];unfold vis;by_cases hm:rI aA v∈s.1;simp only[hm,if_true,Option.isSome_some,zC,Option.getD_some];exact⟨w,t,rfl,hw⟩;have hc:=h.cel hr;have cy:aB cells (rI aA v)=some (pR cells (rI aA v)):=by rw[show rI aA v=(((rI aA v).toNat:Nat):Int) by omega,cH];exact hc
  have Xt:=h.ar _ _ hc;have Bn:=Gr hc;have nA:=hs.snoc hr hm (pR cells (rI aA v)).kind;have CC:=nA.le;simp only[zU,zO,zS]at CC;have bA:=hs.len;simp only[hm,if_false,Option.isSome_none,zD,cy,aP];rw[aF,if_pos (by omega)];have pV:∀a∈(pR cells (rI aA v)).arcs,0<=a.To/\a.To<(N:Int):=fun a ha=>(Xt.ok a ha).2.2;have key:∀(m i:Nat)(b7:I aK)(s':I Int×I aM)(w:kG Int Int)(t:Nat),(pR cells (rI aA v)).arcs.length-i<m->i<=(pR cells (rI aA v)).arcs.length->b7.length=i->Sn N B s'->s.1.length+1<=s'.1.length->Rep w s'.1->
    ∃w' t',Kc p2 p3 s.2 cells p9 iH (pR cells (rI aA v)) (TN n) m (i:Int) b7 w s'.2 t=Ud s.2 (vK (vis cells aA n) ((pR cells (rI aA v)).arcs.drop i) s' b7).1 w' (vK (vis cells aA n) ((pR cells (rI aA v)).arcs.drop i) s' b7).2.2 t'/\Rep w' (vK (vis cells aA n) ((pR cells (rI aA v)).arcs.drop i) s' b7).2.1/\Sn N B (vK (vis cells aA n) ((pR cells (rI aA v)).arcs.drop i) s' b7).2/\s.1.length+1<=(vK (vis cells aA n) ((pR cells (rI aA v)).arcs.drop i) s' b7).2.1.length:=by
   intro m;induction m with
   |zero=>intro i b7 s' w t hm;omega|succ m ih=>intro i b7 s' w t hm hi ha C7 FT xQ;unfold Kc;by_cases aE:i<(pR cells (rI aA v)).arcs.length;obtain⟨a,hga,tS⟩:=eI aE;have pJ:=pV a tS;have hle':=C7.le;obtain⟨w1,t1,g1,g2⟩:=z43 h hB hB2 hN hD p2 p3 p9 iH n s' a.To w t C7 pJ xQ (by omega);obtain⟨q1,q2,q3⟩:=I' h hB n s' a.To C7 pJ (by omega);simp only[gS aE,zC,cH,hga,aP,g1,iG aE (show(pR cells (rI aA v)).arcs.length<=9223372036854775807 by omega)];rw[aF,if_pos (by omega),aX hga,vK];exact ih (i+1) _ _ w1 t1 (by omega) (by omega) (by simp[ha]) q1 (by omega) g2;rw[bV aE];simp only[hZ aE,zD,vK];exact⟨w,t,rfl,xQ,C7,FT⟩
  obtain⟨w1,t1,g1,g2,g3,g4⟩:=key n 0 [] (s.1++[rI aA v],s.2++[⟨(pR cells (rI aA v)).kind,[]⟩]) (D4 (fun a b=>a==b) w (rI aA v) (s.2.length:Int)) (t+1) (by omega) (by omega) rfl nA (by simp) (by rw[bA];exact hw.snoc hm);rw[zV]at g1;rw[List.drop_zero]at g1 g2 g3 g4;rw[g1];refine⟨w1,t1,?_,g2⟩;obtain⟨x,hx,_⟩:=eI (l:=(vK (vis cells aA n) (pR cells (rI aA v)).arcs (s.1++[rI aA v],s.2++[⟨(pR cells (rI aA v)).kind,[]⟩]) []).2.2) (show s.2.length<_ by have:=g3.len;omega);simp only[Ud,cH,hx,aP,Nat.zero_add,zZ,Fk,<-bA,zM,Option.getD_some]
def sU(n:Nat)(cells:I aT)(aA:Nat->Nat)(v:Int):GFS:=⟨(vis cells aA n ([],[]) v).2.2⟩
variable{n:Nat}
def xv{N D:Nat}{FB TB:Int}{cells:I aT}{aA d:Nat->Nat}(h:lO N D FB TB cells aA d)(hB:tot cells<=20000)(hN:N<=1000)(hD:D<=20000)(hn:30000<=n){v:Int}(hv:0<=v/\v<(N:Int))(p2:I dI)(p3:I eB)(p9:I bH)(iH:I d6):
  BY n v p2 p3 cells p9 iH=some (sU n cells aA v,true):=by
 have hl:=h.len;obtain⟨w',t',g1,_⟩:=z43 h hB (by omega) hN hD p2 p3 p9 iH n ([],[]) v GC 0 (Sn.nil N 20000) hv Rep.nil (by simp;omega);have e1:decide (v<0)=false:=by simp;omega
 have e2:decide (v>=(cells.length:Int))=false:=by simp;omega
 simp only[BY,e1,e2,zD,aP,g1,sU]
def sY(n:Nat)(cells:I aT)(aA:Nat->Nat)(N:Nat):I GFS:=(List.range N).map fun(i:Nat)=>sU n cells aA (i:Int)
def zay{N D:Nat}{FB TB:Int}{cells:I aT}{aA d:Nat->Nat}(h:lO N D FB TB cells aA d)(hB:tot cells<=20000)(hN:N<=1000)(hD:D<=20000){n:Nat}(hn:30000<=n)(p2:I dI)(p3:I eB)(p9:I bH)(iH:I d6):∀(m i:Nat),N-i<m->i<=N->Js p2 p3 cells p9 iH n m (i:Int) (sY n cells aA i)=some (sY n cells aA N)
 |0,i,hm,_=>by omega
 |m+1,i,hm,hi=>by
  unfold Js;have hl:=h.len;simp only[MZ,aP,hl];by_cases aE:i<N;have nN:=xv h hB hN hD hn (v:=(i:Int)) (by omega) p2 p3 p9 iH;have uO:(sY n cells aA i).length=i:=by simp[sY]
  have e:sY n cells aA i++[GFS.mk (sU n cells aA (i:Int)).Nodes]=sY n cells aA (i+1):=by simp[sY,List.range_succ]
  simp only[gS aE,zC,nN,aP,iG aE (show N<=9223372036854775807 by omega)];rw[aF,if_pos (by omega),e];exact zay h hB hN hD hn p2 p3 p9 iH m (i+1) (by omega) (by omega);have:i=N:=by omega
  subst this;simp only[hZ aE,zD,px]
def z6l{N D:Nat}{FB TB:Int}{cells:I aT}{aA d:Nat->Nat}(h:lO N D FB TB cells aA d)(hB:tot cells<=20000)(hN:N<=1000)(hD:D<=20000)(hn:30000<=n)(p2:I dI)(p3:I eB)(p9:I bH)(iH:I d6):ZW n p2 p3 cells p9 iH=some (sY n cells aA N):=by have:=zay h hB hN hD hn p2 p3 p9 iH n 0 (by omega) (by omega);rw[zV]at this;exact this
def zaq{l:I GFS}(hs:∀f∈l,c8 f 1000)(hl:l.length<=1000000){n:Nat}(hn:3000000<=n):∀(m i:Nat),l.length-i<m->i<=l.length->Jp l l n m (i:Int)=some true
 |0,i,hm,_=>by omega
 |m+1,i,hm,hi=>by unfold Jp;by_cases aE:i<l.length;obtain⟨f,hf,yY⟩:=eI aE;have:=jo (hs f yY) (hs f yY) hn;rw[jw.2 rfl]at this;have e:((0:Int)==0)=true:=rfl;simp only[gS aE,zC,cH,hf,aP,this,e,Bool.not_true,zD,iG aE (show l.length<=9223372036854775807 by omega)];exact zaq hs hl hn m (i+1) (by omega) (by omega);simp only[hZ aE,zD,pn]
def zci{l:I GFS}(hs:∀f∈l,c8 f 1000)(hl:l.length<=1000000)(hn:3000000<=n):T9 n l l=some true:=by
 have:=zaq hs hl hn n 0 (by omega) (by omega);rw[zV]at this;have e:((l.length:Int) != (l.length:Int))=false:=by simp
 simp only[T9,e,zD,this]
structure GG(h:cB)(f:GFS):Prop where
 sm:c8 f 12
 ne:0<f.Nodes.length
 nok:∀x∈f.Nodes,(0<=x.Typex/\x.Typex<(h.Types.length:Int))/\wK f.Nodes.length (h.Feats.length:Int) x.Arcs
 can:fX f 0=f
 gok:u7 f
def z9l{h:cB}{z:Int}{rc:Int->V Int}{x:aM}{Q:Prop}(hx:x.Arcs.length<=12)(hr:∃r,rc (IntKind.i64.wrap (z+1))=some r/\(r=0->Q)):∀(m k:Nat),x.Arcs.length-k<m->k<=x.Arcs.length->∃r,Ja h z rc x m (k:Int)=some r/\(r=0->Q/\∀a∈x.Arcs.drop k,a.Feat<(h.Feats.length:Int))
 |0,k,hm,_=>by omega
 |m+1,k,hm,hk=>by unfold Ja;by_cases aE:k<x.Arcs.length;obtain⟨a,ha,_⟩:=eI aE;simp only[gS aE,zC,cH,ha,aP,iG aE (show x.Arcs.length<=9223372036854775807 by omega)];by_cases hf:a.Feat>=(h.Feats.length:Int);simp only[hf,yC,zC];exact⟨_,rfl,fun q=>by cases q⟩;simp only[hf,yB,zD];obtain⟨r,r1,r2⟩:=z9l hx hr m (k+1) (by omega) (by omega);refine⟨r,r1,fun q=>⟨(r2 q).1,fun b hb=>?_⟩⟩;rw[aX ha]at hb;rcases zI.1 hb with rfl |hb;omega;exact(r2 q).2 b hb;simp only[hZ aE,zD,mw,bV aE];obtain⟨r,r1,r2⟩:=hr;exact⟨r,r1,fun q=>⟨r2 q,fun a ha=>by cases ha⟩⟩
def z9k{h:cB}{f:GFS}{n:Nat}{r3:GFS×Int}{Q:Prop}(hs:c8 f 12)(hn:12<n)(hk:∃r,Jb f n r3=some r/\(r=0->Q)):∀(m i:Nat),f.Nodes.length-i<m->i<=f.Nodes.length->∃r,TA h f n r3 m (i:Int)=some r/\(r=0->Q/\∀x∈f.Nodes.drop i,x.Typex<(h.Types.length:Int)/\∀a∈x.Arcs,a.Feat<(h.Feats.length:Int))
 |0,i,hm,_=>by omega
 |m+1,i,hm,hi=>by have vV:=hs.nodes;unfold TA;by_cases aE:i<f.Nodes.length;obtain⟨x,hx,gU⟩:=eI aE;have Bm:=hs.arcs x gU;simp only[gS aE,zC,cH,hx,aP];by_cases ht:x.Typex>=(h.Types.length:Int);simp only[ht,yC,zC];exact⟨_,rfl,fun q=>by cases q⟩;simp only[ht,yB,zD];have ih:=z9k (h:=h) hs hn hk m (i+1) (by omega) (by omega);rw[<-iG aE (show f.Nodes.length<=9223372036854775807 by omega)]at ih;obtain⟨r,r1,r2⟩:=z9l (h:=h) (z:=(i:Int)) (x:=x) Bm ih n 0 (by omega) (by omega);rw[zV]at r1;refine⟨r,r1,fun q=>?_⟩;obtain⟨⟨q1,q2⟩,q3⟩:=r2 q;refine⟨q1,fun y hy=>?_⟩;rw[aX hx]at hy;rcases zI.1 hy with rfl |hy;exact⟨by omega,by rw[List.drop_zero]at q3;exact q3⟩;exact q2 y hy;simp only[hZ aE,zD,bV aE];obtain⟨r,r1,r2⟩:=hk;exact⟨r,r1,fun q=>⟨r2 q,fun a ha=>by cases ha⟩⟩
variable{n:Nat}
def Eh{f:GFS}(hs:c8 f 12)(h:cB)(hn:3000000<=n):∃r,Hx n h f=some r/\(r=0->GG h f):=by
 have h2:=qxy hs (by omega) (n:=n) (show 2*12+4<=n by omega);by_cases e:I3 f=0;rw[if_pos e]at h2;obtain⟨g1,g2,g3⟩:=qv6.1 e;have jD:oR f 0:=⟨by omega,by omega⟩;have HC:=hs.canon g3 (r:=0) jD;have q2:=jo (f:=f) (g:=⟨(fX f 0).Nodes⟩) (n:=n) (hs.up (by omega)) (HC.up (by omega)) hn;have hk:∃r,Jb f n (fX f 0,0)=some r/\(r=0->f=fX f 0):=by simp only[Jb,q2,aP];cases hb:(El f ⟨(fX f 0).Nodes⟩==0);exact⟨_,rfl,fun q=>by cases q⟩;exact⟨_,rfl,fun _=>jw.1 (by simpa using hb)⟩
 obtain⟨r,r1,r2⟩:=z9k (h:=h) hs (by omega) hk n 0 (by have:=hs.nodes;omega) (by omega);rw[zV]at r1;refine⟨r,by simp only[Hx,h2,aP];exact r1,fun q=>?_⟩;obtain⟨q1,q3⟩:=r2 q;rw[List.drop_zero]at q3;have hc:=z2t g3 jD;refine⟨hs,by omega,fun x hx=>⟨⟨(g3 x hx).ty,(q3 x hx).1⟩,?_,fun a ha=>?_⟩,q1.symm,g3⟩;exact hc.up x (q1 ▸ hx);have:=(g3 x hx).arc a ha;exact⟨this.1,(q3 x hx).2 a ha,this.2⟩;rw[if_neg e]at h2;have e':(I3 f != 0)=true:=by simp[e]
 exact⟨I3 f,by simp only[Hx,h2,aP,e',zC],fun q=>absurd q e⟩
def z9w{h:cB}{l:I GFS}(hl:l.length<=1000000){n:Nat}(hn:3000000<=n):∀(m i:Nat),l.length-i<m->i<=l.length->∃b,Is h l n m (i:Int)=some b/\(b=true->∀f∈l.drop i,GG h f)
 |0,i,hm,_=>by omega
 |m+1,i,hm,hi=>by
  unfold Is;by_cases aE:i<l.length;obtain⟨f,hf,_⟩:=eI aE;obtain⟨b,b1,b2⟩:=z83 f (n:=n) (by omega);simp only[gS aE,zC,cH,hf,aP,b1,iG aE (show l.length<=9223372036854775807 by omega)];rcases b with _|_;simp only[Bool.not_false,zC,aP];exact⟨false,rfl,fun q=>by cases q⟩;obtain⟨r,r1,r2⟩:=Eh (b2 rfl) h hn;simp only[Bool.not_true,zD,r1,aP];cases hr:(r != 0)with
  |true=>simp only[zC];exact⟨false,rfl,fun q=>by cases q⟩|false=>simp only[zD];obtain⟨b,g1,g2⟩:=z9w hl hn m (i+1) (by omega) (by omega);refine⟨b,g1,fun q g hg=>?_⟩;rw[aX hf]at hg;rcases zI.1 hg with rfl |hg;exact r2 (by simpa using hr);exact g2 q g hg
  simp only[hZ aE,zD,me,bV aE];exact⟨true,rfl,fun _ f hf=>by cases hf⟩
def zbk(h:cB){l:I GFS}(hl:l.length<=1000000)(hn:3000000<=n):∃b,vj n h l=some b/\(b=true->∀f∈l,GG h f):=by obtain⟨b,h1,h2⟩:=z9w (h:=h) hl hn n 0 (by omega) (by omega);rw[zV]at h1;exact⟨b,h1,h2⟩
def IN(k:Nat)(a:aK):aK:=⟨a.Feat,a.To+(k:Int)⟩
def AW(k:Nat)(x:aM):aT:=⟨-1,x.Typex,x.Arcs.map (IN k)⟩
def Mb{a:aK}{k:Nat}(h:0<=a.To/\a.To<1000)(hk:k<=1000):IntKind.i64.wrap (a.To+(k:Int))=a.To+(k:Int):=wr (by omega) (by omega)
def z4h{p4:I aT}{z:Int}{l24:I aT}{t:Nat}{rc:Int->I aT->Nat->V (Int×I aT×Nat)}{x:aM}(hx:x.Arcs.length<=12)(hp:p4.length<=1000)(pV:∀a∈x.Arcs,0<=a.To/\a.To<1000):∀(m i:Nat),x.Arcs.length-i<m->i<=x.Arcs.length->Jz p4 z l24 t rc x m (i:Int) ((x.Arcs.take i).map (IN p4.length))=Uc z l24 t rc x (x.Arcs.map (IN p4.length))
 |0,i,hm,_=>by omega
 |m+1,i,hm,hi=>by
  unfold Jz;by_cases aE:i<x.Arcs.length;obtain⟨a,ha,tS⟩:=eI aE;have e:(x.Arcs.take i).map (IN p4.length)++[aK.mk a.Feat (a.To+(p4.length:Int))]=(x.Arcs.take (i+1)).map (IN p4.length):=by rw[j5 ha,List.map_append];rfl
  simp only[gS aE,zC,cH,ha,aP,Mb (pV a tS) hp,iG aE (show x.Arcs.length<=9223372036854775807 by omega),e];rw[aF,if_pos (by simp only[yA,List.length_take];omega)];exact z4h hx hp pV m (i+1) (by omega) (by omega);simp only[hZ aE,zD];rw[zW (by omega)]
def z4g{f:GFS}(hf:c8 f 12)(pV:∀x∈f.Nodes,∀a∈x.Arcs,0<=a.To/\a.To<1000){p4:I aT}(hp:p4.length<=1000){n:Nat}(hn:20<=n){t0:Nat}:∀(m i:Nat),f.Nodes.length-i<m->i<=f.Nodes.length->PT f p4 n m (i:Int) (p4++(f.Nodes.take i).map (AW p4.length)) (t0+i)=some ((p4.length:Int),p4++f.Nodes.map (AW p4.length),t0+f.Nodes.length)
 |0,i,hm,_=>by omega
 |m+1,i,hm,hi=>by
  have vV:=hf.nodes;unfold PT;by_cases aE:i<f.Nodes.length;obtain⟨x,hx,gU⟩:=eI aE;have h2:=z4h (z:=(i:Int)) (l24:=p4++(f.Nodes.take i).map (AW p4.length)) (t:=t0+i) (rc:=PT f p4 n m) (hf.arcs x gU) hp (pV x gU) n 0 (by have:=hf.arcs x gU;omega) (by omega);rw[zV,List.take_zero,List.map_nil]at h2;have e:p4++(f.Nodes.take i).map (AW p4.length)++[aT.mk (-1) x.Typex (x.Arcs.map (IN p4.length))]=p4++(f.Nodes.take (i+1)).map (AW p4.length):=by rw[j5 hx,List.map_append,zT];rfl
  simp only[gS aE,zC,cH,hx,aP,h2,Uc,iG aE (show f.Nodes.length<=9223372036854775807 by omega),e];rw[aF,if_pos (by simp only[zU,yA,List.length_take];omega)];exact z4g hf pV hp hn m (i+1) (by omega) (by omega);have e:i=f.Nodes.length:=by omega
  subst e;simp only[hZ aE,zD,gj,List.take_length]
def xy{f:GFS}(hf:c8 f 12)(pV:∀x∈f.Nodes,∀a∈x.Arcs,0<=a.To/\a.To<1000){p4:I aT}(hp:p4.length<=1000)(hn:20<=n)(t0:Nat)(p2:I dI)(p3:I eB)(p6:I bH)(p8:I d6):Aa n f p2 p3 p4 t0 p6 p8=some ((p4.length:Int),p4++f.Nodes.map (AW p4.length),t0+f.Nodes.length):=by have:=z4g hf pV hp hn (t0:=t0) n 0 (by have:=hf.nodes;omega) (by omega);rw[zV,List.take_zero,List.map_nil,List.append_nil,Nat.add_zero]at this;exact this
def uX(a k:Nat):I Int:=(List.range k).map fun i=>((a+i:Nat):Int)
def z8y(a k:Nat):uX a (k+1)=uX a k++[((a+k:Nat):Int)]:=by simp[uX,List.range_succ]
def fp(a k:Nat):(uX a k).length=k:=by simp[uX]
structure Flat(N:Nat)(FB TB:Int)(c:aT):Prop where
 fw:c.forward= -1
 ar:wK N FB c.arcs
 kd:0<=c.kind/\c.kind<TB
 sm:c.arcs.length<=12
def lO.init{N:Nat}{FB TB:Int}{cells:I aT}(hl:cells.length=N)(h:∀c∈cells,Flat N FB TB c):lO N 0 FB TB cells id (fun _=>0) where
 rok:=⟨fun i hi=>hi,fun i hi=>rfl,fun i hi=>rfl,fun i hi=>zF _⟩
 cok:=⟨fun i c hc _=>(h c (zX hc)).fw,fun i c hc d5=>absurd rfl d5⟩
 len:=hl
 ar i c hc:=(h c (zX hc)).ar
 kd i c hc:=(h c (zX hc)).kd
def J':∀{cells:I aT},(∀c∈cells,c.arcs.length<=12)->tot cells<=12*cells.length
 |[],_=>by simp[tot]
 |c::l,h=>by have ih:=J' (cells:=l) fun x hx=>h x (List.mem_cons_of_mem _ hx);have:=h c (by simp);simp only[tot,zQ,List.sum_cons,zO]at ih ⊢;omega
def RO{k:Nat}{l:I aK}(h:kY l):kY (l.map (IN k)):=by unfold kY at*;rw[List.pairwise_map];exact h.imp fun{a b} q=>q
variable{h:cB}
def GG.flat{f:GFS}(hf:GG h f){N k:Nat}(hk:k+f.Nodes.length<=N){c:aT}(hc:c∈f.Nodes.map (AW k)):Flat N (h.Feats.length:Int) (h.Types.length:Int) c:=by obtain⟨x,hx,rfl⟩:=List.mem_map.1 hc;obtain⟨h1,h2⟩:=hf.nok x hx;refine⟨rfl,⟨RO h2.up,fun a ha=>?_⟩,h1,by simp[AW];exact hf.sm.arcs x hx⟩;obtain⟨b,hb,rfl⟩:=List.mem_map.1 ha;have:=h2.ok b hb;exact⟨this.1,this.2.1,by show 0<=b.To+(k:Int);omega,by show b.To+(k:Int)<_;omega⟩
def GG.to{f:GFS}(hf:GG h f):∀x∈f.Nodes,∀a∈x.Arcs,0<=a.To/\a.To<1000:=fun x hx a ha=>by
 have:=(hf.nok x hx).2.ok a ha;have:=hf.sm.nodes;omega
variable{n:Nat}
def kg{aA:Nat->Nat}{m i j:Nat}(h:aA i=aA j):hH aA m n i=hH aA m n j:=by unfold hH;rw[h]
def Hj{mt:Int->Int->V Int}{i j:Nat}:∀(k:Nat)(W:I (Int×Int))(c:I aT)(aA d:Nat->Nat),aA i=aA j->(jX mt k W c aA d).2.2.1 i=(jX mt k W c aA d).2.2.1 j
 |0,W,c,aA,d,h=>h|k+1,[],c,aA,d,h=>h
 |k+1,p::W,c,aA,d,h=>by unfold jX;by_cases e:aA p.1.toNat=aA p.2.toNat;rw[if_pos e];exact Hj k W c aA d h;rw[if_neg e];rcases mt (celN c (aA p.1.toNat)).kind (celN c (aA p.2.toNat)).kind with _|t;exact h;exact Hj k _ _ _ _ (kg h)
def kr{mt:Int->Int->V Int}{N:Nat}{FB TB:Int}(B3:∀s t r,(0<=s/\s<TB)->(0<=t/\t<TB)->mt s t=some r->0<=r/\r<TB):∀(k:Nat)(W:I (Int×Int))(c:I aT)(aA d:Nat->Nat)(D:Nat),Rnd N D FB TB W c aA d->W.length+tot c<k->(jX mt k W c aA d).1=true->∀p∈W,(jX mt k W c aA d).2.2.1 p.1.toNat=(jX mt k W c aA d).2.2.1 p.2.toNat
 |0,W,c,aA,d,D,h,hk,_=>by omega
 |k+1,[],c,aA,d,D,h,hk,_=>fun p hp=>by cases hp
 |k+1,p::W,c,aA,d,D,h,hk,hb=>by simp only[zO]at hk;have T:=h.two;unfold jX at hb ⊢;by_cases e:aA p.1.toNat=aA p.2.toNat;rw[if_pos e]at hb ⊢;intro q hq;rcases zI.1 hq with rfl |hq;exact Hj k W c aA d e;exact kr B3 k W c aA d D h.skip (by omega) hb q hq;rw[if_neg e]at hb ⊢;rcases hm:mt (celN c (aA p.1.toNat)).kind (celN c (aA p.2.toNat)).kind with _|t;rw[hm]at hb;cases hb;rw[hm]at hb;have ht:=B3 _ _ _ T.km T.kn hm;have hT:=T.tot e t W;intro q hq;rcases zI.1 hq with rfl |hq;refine Hj k _ _ _ _ ?_;simp[hH,e];exact kr B3 k _ _ _ _ (D+1) (h.next e ht) (by omega) hb q (List.mem_append_right _ hq)
def z4s{ws:I Nat}(hh:pD h ws)(hn:2000<=n):∀s t r,(0<=s/\s<(ws.length:Int))->(0<=t/\t<(ws.length:Int))->uM n h s t=some r->0<=r/\r<(ws.length:Int):=fun s t r hs ht hr=>by
 rcases xd hh hs ht hn with⟨h1,_⟩|⟨q,h1,_,h3,_⟩;rw[h1]at hr;cases hr;rw[h1]at hr;have:=Option.some.inj hr;subst this;exact h3
def z8q(hn:1<=n){c:I aT}{aA:Nat->Nat}{u v:Int}(h:aA u.toNat=aA v.toNat):sU n c aA u=sU n c aA v:=by
 obtain⟨k,rfl⟩:=Nat.exists_eq_add_of_le' hn;have:rI aA u=rI aA v:=by unfold rI;rw[h]
 rw[sU,sU,vis,vis,this]
def Es{a b:Nat}(uQ:b&&&a=a)(ha:a<4096)(hb:b<4096)(hl:(bl b).length<=(bl a).length):a=b:=by
 have hs:∀i,a.testBit i=true->b.testBit i=true:=fun i h=>by have:=congrArg (fun z=>z.testBit i) uQ;simp only[Nat.testBit_and,h,Bool.and_true]at this;exact this
 have e1:(List.range 64).filter (fun i=>a.testBit i)=((List.range 64).filter fun i=>b.testBit i).filter fun i=>a.testBit i:=by
  rw[List.filter_filter];refine List.filter_congr fun i _=>?_;rcases h:a.testBit i with _|_
  simp;simp[hs i h]
 simp only[bl,yA]at hl;rw[e1]at hl;have e2:((List.range 64).filter fun i=>b.testBit i).filter (fun i=>a.testBit i)=(List.range 64).filter fun i=>b.testBit i:=(List.filter_sublist).eq_of_length_le hl;refine Nat.eq_of_testBit_eq fun i=>?_;by_cases hi:i<64;cases A0:b.testBit i with
 |false=>rcases hai:a.testBit i with _|_;rfl;rw[hs i hai]at A0;cases A0
 |true=>have:i∈(List.range 64).filter fun i=>b.testBit i:=List.mem_filter.2 ⟨List.mem_range.2 hi,A0⟩;rw[<-e2]at this;exact(List.mem_filter.1 this).2
 rw[Nat.testBit_lt_two_pow (Nat.lt_of_lt_of_le ha (Nat.pow_le_pow_right (n:=2) (by omega) (show 12<=i by omega))),Nat.testBit_lt_two_pow (Nat.lt_of_lt_of_le hb (Nat.pow_le_pow_right (n:=2) (by omega) (show 12<=i by omega)))]
def tq.hr{d:I bL}(hh:tq d n h):∃ws,pD h ws:=by
 obtain⟨l,f,h1,h2,h3⟩:=hh.ex;obtain⟨nm,c0,ws,g1,g2,g3,g4,g5⟩:=h1.cok.ws;have hc:=h1.cok.cod;have e1:(l.map fun x=>cw x.Code).map bt=l.map dQ.Code:=by rw[List.map_map];apply List.map_congr_left;intro x hx;obtain⟨w,hw,_⟩:=hc x hx;simp[hw,IW]
 have e2:(l.map fun x=>cw x.Code).Perm ws:=by
  have:=g3.perm.map cw;rw[List.map_map,List.map_map]at this;have e3:ws.map (cw ∘ bt)=ws:=by have:(cw ∘ bt)=id:=funext fun w=>IW w;rw[this,List.map_id]
  rw[e3]at this;exact this
 refine⟨l.map fun x=>cw x.Code,⟨by rw[h2,e1],fun w hw=>?_,e2.nodup_iff.2 g1.nod,fun a ha b hb d5=>?_,?_,?_,?_,?_⟩⟩;have:=g1.ok w (e2.mem_iff.1 hw);exact⟨this.2.1,by omega⟩;exact e2.mem_iff.2 (g2 a (e2.mem_iff.1 ha) b (e2.mem_iff.1 hb) d5);rw[e2.length_eq];omega;rw[e2.length_eq];omega;have:=congrArg List.length h3;rw[yA]at this;have:=h1.len;omega;intro w hw;obtain⟨y,hy,rfl⟩:=List.mem_map.1 hw;obtain⟨w0,⟨x0,vT,e0⟩,C6⟩:=h1.cok.top;have Wc:=g3.srt;rcases hl:l with _|⟨z,l'⟩;rw[hl]at vT;cases vT;simp only[zQ,List.getElem?_cons_zero,Option.getD_some];have hzm:z∈l:=by rw[hl];simp
 obtain⟨wz,ez,lz,_⟩:=hc z hzm;obtain⟨w0',QY,l0,_⟩:=hc x0 vT;have e00:w0=w0':=by rw[<-IW w0,<-IW w0',<-e0,<-QY]
 have oN:cnt x0<=cnt z:=by rw[hl]at vT Wc;rcases zI.1 vT with rfl |h;exact zF _;exact(List.pairwise_cons.1 Wc).1 x0 h
 have hz:=C6 z hzm;rw[ez,IW]at hz;have:wz=w0:=Es hz lz (by rw[e00];exact l0) (by
  have c1:cnt x0=(bl w0).length:=by rw[cnt,e0,IW]
  have c2:cnt z=(bl wz).length:=by rw[cnt,ez,IW]
  omega)
 rw[ez,IW,this];exact C6 y (by rw[hl]at hy;rw[hl];exact hy)
def wd(t:dI):Nat:=cw t.Code
def bi:I Nat->Bool
 |[]=>true|x::l=>!(l.any fun y=>Nat.beq x y)&&bi l
def okB(h:cB):Bool :=
 (h.Types.all fun t=>match t.Code with |[z]=>decide (0<z)&&decide (z<4611686018427387904)|_=>false) &&
 bi (h.Types.map wd)&&((h.Types.map wd).all fun a=>(h.Types.map wd).all fun b=>Nat.beq (a&&&b) 0||(h.Types.map wd).any fun c=>Nat.beq (a&&&b) c) &&
 Nat.ble h.Types.length 1000&&Nat.ble 1 h.Types.length&&Nat.ble h.Feats.length 1000&&((h.Types.map wd).all fun w=>Nat.beq ((((h.Types.map wd)[0]?).getD 0)&&&w) w)
def zae:∀{l:I Nat},bi l=true->l.Nodup
 |[],_=>List.nodup_nil|x::l,h=>by simp only[bi,Bool.and_eq_true,Bool.not_eq_true',List.any_eq_false]at h;refine List.nodup_cons.2 ⟨fun hx=>?_,zae h.2⟩;have:=h.1 x hx;simp at this
def Am(hb:okB h=true):∃ws,pD h ws:=by
 simp only[okB,Bool.and_eq_true,List.all_eq_true,Nat.ble_eq]at hb;obtain⟨⟨⟨⟨⟨⟨h1,h2⟩,h3⟩,h4⟩,h5⟩,h6⟩,h7⟩:=hb;have Xn:∀t∈h.Types,t.Code=bt (wd t)/\wd t≠0/\wd t<4611686018427387904:=fun t ht=>by
  have:=h1 t ht;unfold wd;rcases hc:t.Code with _|⟨z,l⟩;rw[hc]at this;simp at this;cases l with
  |cons y l=>rw[hc]at this;simp at this|nil=>rw[hc]at this;simp at this;have e:cw [z]=z.toNat:=rfl;rw[e];exact⟨by rw[sX (by omega)];congr 1;omega,by omega,by omega⟩
 refine⟨h.Types.map wd,⟨?_,fun w hw=>?_,zae h2,fun a ha b hb d5=>?_,by rw[yA];exact h4,by rw[yA];exact h5,h6,fun w hw=>by have:=h7 w hw;rw[Nat.beq_eq]at this;exact this⟩⟩;rw[List.map_map];exact List.map_congr_left fun t ht=>(Xn t ht).1;obtain⟨t,ht,rfl⟩:=List.mem_map.1 hw;exact(Xn t ht).2;have:=h3 a ha b hb;rw[Bool.or_eq_true,Nat.beq_eq]at this;rcases this with h |h
 exact absurd h d5;obtain⟨c,hc,e⟩:=List.any_eq_true.1 h;rw[Nat.beq_eq]at e;rw[e];exact hc
def preB(m:Nat):a8 (Si (m+200)) (fun d=>a8 (P9 (m+200) d) fun r=>some (okB r.1))=some true:=by kernel_rfl
def qc(m:Nat):N3 (m+200)=some true:=by kernel_rfl
def ex12(h:200<=n):N3 n=some true:=by
 have:=qc (n-200)
 rwa [show n-200+200=n by omega]at this
def Ag(h:200<=n):∃g ws,Ju n=some g/\pD g ws:=by have:=preB (n-200);rw[show n-200+200=n by omega]at this;rcases e1:Si n with _|d;rw[e1]at this;cases this;rw[e1,aP]at this;rcases e2:P9 n d with _|r;rw[e2]at this;cases this;rw[e2,aP]at this;obtain⟨ws,hw⟩:=Am (Option.some.inj this);exact⟨⟨r.1.Types,r.1.Feats⟩,ws,by simp only[Ju,e1,e2,aP],hw⟩
def zbn(d:I bL)(hn:5000<=n):∃g ws,Ts n d=some g/\pD g ws:=by
 obtain⟨g,ws,p1,p2⟩:=Ag (n:=n) (by omega);unfold Ts;by_cases hd:(d.length:Int)<=12;obtain⟨h,e,c1,c2,c3⟩:=z0q (d:=d) (by omega) hn;simp only[hd,yC,zC,c1,aP];by_cases he:e=0;subst he;obtain⟨ws',hw⟩:=(c2 rfl).hr;exact⟨⟨h.Types,h.Feats⟩,ws',rfl,hw⟩;have:(e==0)=false:=by simpa using he
 simp only[this,zD];exact⟨g,ws,p1,p2⟩;simp only[hd,yB,zD];exact⟨g,ws,p1,p2⟩
def B9(aA:Nat->Nat)(a:aK):aK:=⟨a.Feat,rI aA a.To⟩
def Ki(aA:Nat->Nat)(c:aT):aM:=⟨c.kind,c.arcs.map (B9 aA)⟩
def cG(cells:I aT)(aA:Nat->Nat):GFS:=⟨cells.map (Ki aA)⟩
variable{aA:Nat->Nat}
def WV{l:I aK}(h:kY l):kY (l.map (B9 aA)):=by unfold kY at*;rw[List.pairwise_map];exact h.imp fun{a b} q=>q
def lO.gok{N D:Nat}{FB TB:Int}{cells:I aT}{d:Nat->Nat}(h:lO N D FB TB cells aA d):u7 (cG cells aA):=fun x hx=>by
 obtain⟨c,hc,rfl⟩:=List.mem_map.1 hx;obtain⟨i,hi⟩:=List.getElem?_of_mem hc;have ha:=h.ar i c hi;refine⟨(h.kd i c hi).1,(WV ha.up).dis,fun a hm=>?_⟩;obtain⟨b,hb,rfl⟩:=List.mem_map.1 hm;have h1:=ha.ok b hb;have h2:=h.rI (v:=b.To) h1.2.2;simp only[cG,yA,h.len];exact⟨h1.1,h2⟩
def z4w{f:GFS}{o t:I Int}{u:Int}(hu:∀a∈(nd f u).Arcs,a.To∈o):j9 f (o++t) u=j9 f o u:=by simp only[j9,aM.mk.injEq,true_and];refine List.map_congr_left fun a ha=>?_;simp only[mG,List.idxOf_append,hu a (yI.1 ha),if_true]
def lO.nd{N D:Nat}{FB TB:Int}{cells:I aT}{aA d:Nat->Nat}(h:lO N D FB TB cells aA d){v:Int}(hv:0<=v/\v<(N:Int)):Go.Proofs.nd (cG cells aA) v=Ki aA (pR cells v)/\mF (cG cells aA) v=(pR cells v).arcs.map (B9 aA):=by
 have hc:=h.cel hv;have e:Go.Proofs.nd (cG cells aA) v=Ki aA (pR cells v):=by simp only[Go.Proofs.nd,cG,List.getElem?_map,hc,zM,Option.getD_some]
 exact⟨e,by rw[mF,e];exact z68 (WV (h.ar _ _ hc).up)⟩
def z60(a b:I aM)(k:Int)(l:I aK):Fk (a++[⟨k,[]⟩]++b) a.length l=a++[⟨k,l⟩]++b:=by simp[Fk]
def z6o{N D B:Nat}{FB TB:Int}{cells:I aT}{aA d:Nat->Nat}(h:lO N D FB TB cells aA d)(hB:tot cells<=B):∀(k:Nat)(s:I Int×I aM)(v:Int),Sn N B s->(0<=v/\v<(N:Int))->N-s.1.length<k->rI aA v ∉ s.1->
  vis cells aA k s v=((s.1.length:Int),dfs (cG cells aA) k s.1 (rI aA v),s.2++((dfs (cG cells aA) k s.1 (rI aA v)).drop s.1.length).map (j9 (cG cells aA) (dfs (cG cells aA) k s.1 (rI aA v))))
 |0,s,v,hs,hv,hk,_=>by omega
 |k+1,s,v,hs,hv,hk,hm=>by
  have hg:=h.gok;have hr:=h.rI hv;have nA:=hs.snoc hr hm (pR cells (rI aA v)).kind;have hc:=h.cel hr;have Xt:=h.ar _ _ hc;obtain⟨n1,n2⟩:=h.nd hr;have HK:(cG cells aA).Nodes.length=N:=by simp[cG,h.len]
  have CC:=nA.le;simp only[zU,zO,zS]at CC;have key:∀(l:I aK),(∀a∈l,0<=a.To/\a.To<(N:Int))->∀(s':I Int×I aM)(b7:I aK),Sn N B s'->s.1.length+1<=s'.1.length->
    ∃t,(l.map (B9 aA)).foldl (lD (dfs (cG cells aA) k)) s'.1=s'.1++t/\(∀a∈l,rI aA a.To∈s'.1++t)/\(∀u∈t,∀a∈(Go.Proofs.nd (cG cells aA) u).Arcs,a.To∈s'.1++t)/\
     vK (vis cells aA k) l s' b7=(b7++l.map (fun a=>mG (s'.1++t) (B9 aA a)),s'.1++t,s'.2++t.map (j9 (cG cells aA) (s'.1++t))):=by
   intro l;induction l with
   |nil=>intro _ s' b7 h1 h2;exact⟨[],by simp,by simp,by simp,by simp[vK]⟩|cons a l ih=>
    intro hl s' b7 h1 h2;have ha:=hl a (by simp);have hra:=h.rI ha;rw[vK];by_cases jD:rI aA a.To∈s'.1;have e1:vis cells aA k s' a.To=((s'.1.idxOf (rI aA a.To):Int),s'):=by obtain⟨k',rfl⟩:=Nat.exists_eq_add_of_le' (show 1<=k by have:=h1.le;omega);rw[vis,if_pos jD]
    rw[e1];obtain⟨t,q1,q2,q3,q4⟩:=ih (fun b hb=>hl b (List.mem_cons_of_mem _ hb)) s' (b7++[⟨a.Feat,(s'.1.idxOf (rI aA a.To):Int)⟩]) h1 h2;refine⟨t,?_,?_,q3,?_⟩;rw[zQ,List.foldl_cons];have:lD (dfs (cG cells aA) k) s'.1 (B9 aA a)=s'.1:=by rw[lD,if_pos (by exact jD)]
    rw[this,q1];intro b hb;rcases zI.1 hb with rfl |hb;exact List.mem_append_left _ jD;exact q2 b hb;rw[q4];have:mG (s'.1++t) (B9 aA a)=⟨a.Feat,(s'.1.idxOf (rI aA a.To):Int)⟩:=by simp only[mG,B9,List.idxOf_append,jD,if_true]
    rw[zQ,this];simp;have e1:=z6o h hB k s' a.To h1 ha (by omega) jD;have Xv:Seen (cG cells aA) s'.1:=⟨h1.nd,fun u hu=>by have:=h1.ing u hu;rw[oR,HK];exact this⟩;obtain⟨d1,⟨t1,d2⟩,d3,d4⟩:=Oo hg k s'.1 (rI aA a.To) Xv (by rw[oR,HK];exact hra) jD (by rw[HK];omega);obtain⟨v1,v2,v3⟩:=I' h hB k s' a.To h1 ha (by omega);rw[e1]at v1 v2 ⊢;simp only at v1 v2 ⊢;rw[d2]at v1 v2 ⊢;have Kz:∀u∈rI aA a.To::t1,∀b∈(Go.Proofs.nd (cG cells aA) u).Arcs,b.To∈s'.1++rI aA a.To::t1:=fun u hu b hb=>by by_cases B0:u∈s'.1;exfalso;have:=d1.nd;rw[d2,List.nodup_append]at this;exact this.2.2 u B0 u hu rfl;have:=d3 u (by rw[d2];exact List.mem_append_right _ hu) B0 b hb;rw[d2]at this;exact this
    rw[List.drop_left]at v1 ⊢;obtain⟨t,q1,q2,q3,q4⟩:=ih (fun b hb=>hl b (List.mem_cons_of_mem _ hb)) _ (b7++[⟨a.Feat,(s'.1.length:Int)⟩]) v1 (by simp only[zU,zO]at v2 ⊢;omega);simp only at q1 q2 q3 q4;refine⟨rI aA a.To::t1++t,?_,?_,?_,?_⟩;rw[zQ,List.foldl_cons];have:lD (dfs (cG cells aA) k) s'.1 (B9 aA a)=s'.1++rI aA a.To::t1:=by rw[lD,if_neg (by exact jD)];exact d2
    rw[this,q1];simp;intro b hb;rcases zI.1 hb with rfl |hb;simp;have:=q2 b hb;simpa using this;intro u hu b hb;rcases yD.1 hu with hu |hu;have:=Kz u hu b hb;rw[zT]at*;simp only[yD]at this ⊢;rcases this with h |h;exact .inl h;exact .inr (.inl h);have:=q3 u hu b hb;simpa using this;rw[q4];have e2:s'.1++(rI aA a.To::t1++t)=s'.1++rI aA a.To::t1++t:=by simp
    have e3:mG (s'.1++rI aA a.To::t1++t) (B9 aA a)=⟨a.Feat,(s'.1.length:Int)⟩:=by simp only[mG,B9,List.idxOf_append,yD,jD,zI,true_or,or_true,if_true,if_false,List.idxOf_cons_self];simp
    have e4:(rI aA a.To::t1).map (j9 (cG cells aA) (s'.1++rI aA a.To::t1++t))=(rI aA a.To::t1).map (j9 (cG cells aA) (s'.1++rI aA a.To::t1)):=List.map_congr_left fun u hu=>z4w (Kz u hu);rw[e2];refine Prod.ext ?_ (Prod.ext rfl ?_);show b7++[_]++_=b7++List.map _ (a::l);rw[zQ,e3,zT];rfl;show s'.2++_++_=s'.2++List.map _ (rI aA a.To::t1++t);rw[List.map_append,e4,zT]
  obtain⟨t,q1,q2,q3,q4⟩:=key _ (fun a ha=>(Xt.ok a ha).2.2) (s.1++[rI aA v],s.2++[⟨(pR cells (rI aA v)).kind,[]⟩]) [] nA (by simp);simp only at q1 q2 q3 q4;have hd:dfs (cG cells aA) (k+1) s.1 (rI aA v)=s.1++rI aA v::t:=by rw[dfs,n2,q1];simp
  rw[hd,List.drop_left,vis,if_neg hm];simp only[q4];have bA:=hs.len;rw[<-bA,z60,List.nil_append];have e1:s.1++rI aA v::t=s.1++[rI aA v]++t:=by simp
  rw[e1];have e2:j9 (cG cells aA) (s.1++[rI aA v]++t) (rI aA v)=⟨(pR cells (rI aA v)).kind,(pR cells (rI aA v)).arcs.map fun a=>mG (s.1++[rI aA v]++t) (B9 aA a)⟩:=by rw[j9,n1,n2,List.map_map];rfl
  rw[zQ,e2];simp
def jq{N D:Nat}{FB TB:Int}{cells:I aT}{d:Nat->Nat}(h:lO N D FB TB cells aA d){n:Nat}(hn:N<n){v:Int}(hv:0<=v/\v<(N:Int)):sU n cells aA v=fX (cG cells aA) (rI aA v):=by
 have HK:(cG cells aA).Nodes.length=N:=by simp[cG,h.len]
 have hr:=h.rI hv;have:=z6o h (zF _) n ([],[]) v (Sn.nil N _) hv (by simp;omega) (by simp);obtain⟨o1,o2⟩:=H3 h.gok (r:=rI aA v) (by rw[oR,HK];exact hr);rw[sU,this];simp only[zS,List.drop_zero,List.nil_append,o2 n (by omega),fX]
def z6k:∀{a b:I aK},kY a->kY b->(∀x,x∈a↔x∈b)->a=b
 |[],[],_,_,_=>rfl|[],y::b,_,_,h=>by have:=(h y).2 (by simp);cases this
 |x::a,[],_,_,h=>by have:=(h x).1 (by simp);cases this
 |x::a,y::b,ha,hb,h=>by
  have tT:=List.pairwise_cons.1 ha;have cV:=List.pairwise_cons.1 hb;have e:x=y:=by rcases zI.1 ((h x).1 (by simp))with e |e;exact e;rcases zI.1 ((h y).2 (by simp))with e' |e';exact e'.symm;have:=tT.1 y e';have:=cV.1 x e;omega
  subst e;rw[z6k tT.2 cV.2 fun z=>⟨fun hz=>by
   rcases zI.1 ((h z).1 (List.mem_cons_of_mem _ hz))with e |e;subst e;have:=tT.1 z hz;omega;exact e,fun hz=>by
   rcases zI.1 ((h z).2 (List.mem_cons_of_mem _ hz))with e |e;subst e;have:=cV.1 z hz;omega;exact e⟩]
structure QG(ws:I Nat)(L:I aM)(r:Nat->Nat)(g:GFS):Prop where
 len:g.Nodes.length=L.length
 rt:∀i,i<L.length->r i<L.length/\r (r i)=r i
 kd:∀i x,g.Nodes[i]? = some x->r i=i->(0<=x.Typex/\x.Typex<(ws.length:Int))/\∀k,(eX ws x.Typex).testBit k=true↔∀j c,L[j]? = some c->r j=i->(eX ws c.Typex).testBit k=true
 ds:∀i x,g.Nodes[i]? = some x->r i=i->mA x.Arcs
 cov:∀j c a,L[j]? = some c->a∈c.Arcs->∃x b,g.Nodes[r j]? = some x/\b∈x.Arcs/\b.Feat=a.Feat/\b.To=(r a.To.toNat:Int)
 snd:∀i x b,g.Nodes[i]? = some x->r i=i->b∈x.Arcs->∃j c a,L[j]? = some c/\r j=i/\a∈c.Arcs/\b.Feat=a.Feat/\b.To=(r a.To.toNat:Int)
variable{ws:I Nat}
def zbb(hn:ws.Nodup){s t:Int}(hs:0<=s/\s<(ws.length:Int))(ht:0<=t/\t<(ws.length:Int))(h:eX ws s=eX ws t):s=t:=by have h1:=GZ hs;have h2:=GZ ht;rw[<-h]at h2;obtain⟨a1,b1⟩:=zG.1 h1;obtain⟨a2,b2⟩:=zG.1 h2;have:=(List.getElem_inj (h₀:=a1) (h₁:=a2) hn).1 (by rw[b1,b2]);omega
def InR(N:Nat)(r:Nat->Nat)(v:Int):Prop:=∃i:Nat,v=(i:Int)/\i<N/\r i=i
def QG.sim(hn:ws.Nodup){L:I aM}(hL:∀(j:Nat)(c:aM)(a:aK),L[j]? = some c->a∈c.Arcs->a.To.toNat<L.length){r r':Nat->Nat}{g g':GFS}(h:QG ws L r g)(h':QG ws L r' g')(he:∀i j,i<L.length->j<L.length->(r i=r j↔r' i=r' j)):
  rR g g' (fun v=>(r' v.toNat:Int)) (InR L.length r):=by
 have node:∀{i:Nat},i<L.length->∃x,g.Nodes[i]? = some x/\nd g (i:Int)=x:=fun{i} hi=>by
  have:i<g.Nodes.length:=by rw[h.len];exact hi
  exact⟨_,List.getElem?_eq_getElem this,by simp[nd,this]⟩
 have node':∀{i:Nat},i<L.length->∃x,g'.Nodes[i]? = some x/\nd g' (i:Int)=x:=fun{i} hi=>by
  have:i<g'.Nodes.length:=by rw[h'.len];exact hi
  exact⟨_,List.getElem?_eq_getElem this,by simp[nd,this]⟩
 have memb:∀{j:Nat}{c:aM},L[j]? = some c->j<L.length:=fun hj=>(zG.1 hj).1;have mem_iff:∀{i j:Nat},i<L.length->j<L.length->r i=i->(r j=i↔r' j=r' i):=fun{i j} hi hj hr=>by rw[<-he j i hj hi,hr]
 refine⟨?_,?_,?_,?_⟩;rintro v ⟨i,rfl,hi,hr⟩ a ha;rw[yI]at ha;obtain⟨x,hx,e⟩:=node hi;rw[e]at ha;obtain⟨j,c,b,q1,q2,q3,q4,q5⟩:=h.snd i x a hx hr ha;have:=h.rt _ (hL j c b q1 q3);exact⟨r b.To.toNat,q5,this.1,this.2⟩;rintro u v ⟨i,rfl,hi,hr⟩ ⟨j,rfl,hj,hs⟩ e;simp only[zZ]at e;have:=(he i j hi hj).2 (by omega);omega;rintro v ⟨i,rfl,hi,hr⟩;obtain⟨x,hx,e⟩:=node hi;have jJ:=h'.rt i hi;obtain⟨y,hy,e'⟩:=node' jJ.1;simp only[zZ];rw[e,e'];obtain⟨k1,k2⟩:=h.kd i x hx hr;obtain⟨k3,k4⟩:=h'.kd _ y hy jJ.2;refine zbb hn k3 k1 (Nat.eq_of_testBit_eq fun k=>?_);rw[Bool.eq_iff_iff,k2,k4];exact⟨fun q j c hj UM=>q j c hj ((mem_iff hi (memb hj) hr).1 UM),fun q j c hj UM=>q j c hj ((mem_iff hi (memb hj) hr).2 UM)⟩;rintro v ⟨i,rfl,hi,hr⟩;obtain⟨x,hx,e⟩:=node hi;have jJ:=h'.rt i hi;obtain⟨y,hy,e'⟩:=node' jJ.1;simp only[zZ];have up1:kY (mF g' ((r' i:Nat):Int)):=by rw[mF,e'];exact YG (h'.ds _ y hy jJ.2)
 have up2:kY ((mF g (i:Int)).map fun a=>(⟨a.Feat,(r' a.To.toNat:Int)⟩:aK)):=by
  have:kY (mF g (i:Int)):=by rw[mF,e];exact YG (h.ds _ x hx hr)
  unfold kY at*;rw[List.pairwise_map];exact this.imp fun{a b} q=>q
 refine z6k up1 up2 fun b=>?_;rw[yI,e',List.mem_map];constructor;intro hb;obtain⟨j,c,a,q1,q2,q3,q4,q5⟩:=h'.snd _ y b hy jJ.2 hb;have Kx:=(mem_iff hi (memb q1) hr).2 q2;obtain⟨x2,b2,p1,p2,p3,p4⟩:=h.cov j c a q1 q3;rw[Kx,hx]at p1;cases p1;refine⟨b2,by rw[yI,e];exact p2,?_⟩;have ht:=hL j c a q1 q3;have h1:=h.rt _ ht;have:r' (r a.To.toNat)=r' a.To.toNat:=(he _ _ h1.1 ht).1 h1.2;rw[p4,zZ,this,<-q5,p3,<-q4];rintro⟨b2,rK,rfl⟩;rw[yI,e]at rK;obtain⟨j,c,a,q1,q2,q3,q4,q5⟩:=h.snd i x b2 hx hr rK;have Kx:=(mem_iff hi (memb q1) hr).1 q2;obtain⟨y2,b3,p1,p2,p3,p4⟩:=h'.cov j c a q1 q3;rw[Kx,hy]at p1;cases p1;have ht:=hL j c a q1 q3;have h1:=h.rt _ ht;have e4:r' (r a.To.toNat)=r' a.To.toNat:=(he _ _ h1.1 ht).1 h1.2;have:(⟨b2.Feat,(r' b2.To.toNat:Int)⟩:aK)=b3:=by cases b3;simp only[aK.mk.injEq];simp only at p3 p4;rw[q5,zZ,e4];exact⟨by rw[q4,p3],p4.symm⟩
 rw[this];exact p2
def QG.read(hn:ws.Nodup){L:I aM}(hL:∀(j:Nat)(c:aM)(a:aK),L[j]? = some c->a∈c.Arcs->a.To.toNat<L.length){r r':Nat->Nat}{g g':GFS}(h:QG ws L r g)(h':QG ws L r' g')(hg:u7 g)(Q8:u7 g')(he:∀i j,i<L.length->j<L.length->(r i=r j↔r' i=r' j)){i:Nat}(hi:i<L.length):
  fX g' ((r' i:Nat):Int)=fX g ((r i:Nat):Int):=by have h1:=h.rt i hi;have h2:=h'.rt i hi;have e:r' (r i)=r' i:=(he _ _ h1.1 hi).1 h1.2;have:=(h.sim hn hL h' he).canon hg Q8 (r:=((r i:Nat):Int)) ⟨by omega,by rw[h.len];omega⟩ ⟨r i,rfl,h1.1,h1.2⟩ (by simp only[zZ,e];exact⟨by omega,by rw[h'.len];omega⟩);simp only[zZ,e]at this;exact this.2
def Ln(N:Nat)(r:Nat->Nat)(W:I (Int×Int))(x y:Nat):Prop:=∀q:Nat->Nat,(∀i j,i<N->j<N->r i=r j->q i=q j)->(∀p∈W,q p.1.toNat=q p.2.toNat)->q x=q y
structure AA(N:Nat)(ws:I Nat)(L:I aM):Prop where
 len:L.length=N
 ar:∀(j:Nat)(c:aM)(a:aK),L[j]? = some c->a∈c.Arcs->0<=a.To/\a.To<(N:Int)
structure TC(ws:I Nat)(N:Nat)(L:I aM)(W:I (Int×Int))(cells:I aT)(aA:Nat->Nat):Prop where
 cov:∀(j:Nat)(c:aM)(a:aK),L[j]? = some c->a∈c.Arcs->∃b∈(celN cells (aA j)).arcs,b.Feat=a.Feat/\Ln N aA W b.To.toNat a.To.toNat
 snd:∀(i:Nat)(b:aK),i<N->aA i=i->b∈(celN cells i).arcs->∃(j:Nat)(c:aM),L[j]? = some c/\aA j=i/\b∈c.Arcs
 kd:∀(i:Nat),i<N->aA i=i->∀k:Nat,(eX ws (celN cells i).kind).testBit k=true↔∀(j:Nat)(c:aM),L[j]? = some c->aA j=i->(eX ws c.Typex).testBit k=true
def I4(L:I aM)(q:Nat->Nat):Prop:=∀(i j:Nat)(c e:aM)(a b:aK),L[i]? = some c->L[j]? = some e->q i=q j->a∈c.Arcs->b∈e.Arcs->a.Feat=b.Feat->q a.To.toNat=q b.To.toNat
def WA(ws:I Nat)(L:I aM)(q:Nat->Nat):Prop:=∃i,i<L.length/\∀k:Nat,∃(j:Nat)(c:aM),L[j]? = some c/\q j=q i/\(eX ws c.Typex).testBit k=false
structure W4(N:Nat)(W:I (Int×Int))(aA q:Nat->Nat):Prop where
 r:∀i j,i<N->j<N->aA i=aA j->q i=q j
 w:∀p∈W,q p.1.toNat=q p.2.toNat
variable{c:I aT}
variable{m:Nat}
variable{n:Nat}
def qyk(hm:m<c.length)(hn:n<c.length)(vW:m≠n)(t:Int)(o:I aK)(i:Nat):
  celN (xG c m n t o) i=if i=n then⟨(m:Int),0,[]⟩else if i=m then⟨-1,t,o⟩else celN c i:=by simp only[celN,xG,List.getElem?_set,List.length_set];by_cases e:i=n;subst e;simp[hn];rw[if_neg (fun q=>e q.symm),if_neg e];by_cases e2:i=m;subst e2;simp[hm];rw[if_neg (fun q=>e2 q.symm),if_neg e2]
variable{ws:I Nat}
variable{N:Nat}
variable{L:I aM}
variable{W:I (Int×Int)}
variable{p:Int×Int}
variable{aA:Nat->Nat}
def TC.skip(h:TC ws N L (p::W) c aA)(hp:Ou N p)(e:aA p.1.toNat=aA p.2.toNat):TC ws N L W c aA where
 cov j x a hj ha:=by obtain⟨b,h1,h2,h3⟩:=h.cov j x a hj ha;refine⟨b,h1,h2,fun q q1 q2=>h3 q q1 fun z hz=>?_⟩;rcases zI.1 hz with rfl |hz;exact q1 _ _ (by have:=hp.1;omega) (by have:=hp.2;omega) e;exact q2 z hz
 snd:=h.snd
 kd:=h.kd
structure Mg(N:Nat)(p:Int×Int)(c:I aT)(aA:Nat->Nat)(m n:Nat):Prop where
 len:c.length=N
 hm:m<N
 hn:n<N
 em:aA m=m
 en:aA n=n
 ne:m≠n
 lt:∀i,i<N->aA i<N
 idem:∀i,i<N->aA (aA i)=aA i
 pi:Ou N p
 pp:(aA p.1.toNat=m/\aA p.2.toNat=n)\/(aA p.1.toNat=n/\aA p.2.toNat=m)
 dm:mA (celN c m).arcs
variable{D:Nat}
variable{FB:Int}
variable{d:Nat->Nat}
def Rnd.mg{TB:Int}(hr:Rnd N D FB TB (p::W) c aA d)(d5:aA p.1.toNat≠aA p.2.toNat):Mg N p c aA (aA p.1.toNat) (aA p.2.toNat):=
 have T:=hr.two
 ⟨hr.hp.len,T.hm,T.hn,T.em,T.en,d5,hr.hp.rok.lt,hr.hp.rok.idem,hr.wi p (by simp),.inl ⟨rfl,rfl⟩,T.am.up.dis⟩
def TC.mrg(hL:AA N ws L){W':I (Int×Int)}(T:Mg N p c aA m n)(h:TC ws N L (p::W) c aA){t:Int}{o:I aK}
  (ht:eX ws t=eX ws (celN c m).kind&&&eX ws (celN c n).kind) (hM:o.Perm ((celN c m).arcs++nG (celN c m).arcs (celN c n).arcs)) (w1:∀z∈prs (celN c m).arcs (celN c n).arcs,z∈W') (w2:∀z∈W,z∈W'):
  TC ws N L W' (xG c m n t o) (hH aA m n):=by
 obtain⟨HE,B2⟩:=T.pi;have d5:=T.ne;have bA:=T.len;have hmc:m<c.length:=by have:=T.hm;omega
 have v7:n<c.length:=by have:=T.hn;omega
 have zE:=qyk hmc v7 d5 t o;have ida:∀j,j<N->aA (aA j)=aA j:=T.idem;have jlt:∀{j:Nat}{x:aM},L[j]? = some x->j<N:=fun hj=>by have:=(zG.1 hj).1;rw[hL.len]at this;exact this
 have mono:∀i j,aA i=aA j->hH aA m n i=hH aA m n j:=fun i j e=>kg e;have lnk:∀{x y:Nat},Ln N aA (p::W) x y->Ln N (hH aA m n) W' x y:=fun{x y} hl q q1 q2=>by
  refine hl q (fun i j hi hj e=>q1 i j hi hj (mono i j e)) fun z hz=>?_;rcases zI.1 hz with rfl |hz
  refine q1 _ _ (by omega) (by omega) ?_;unfold hH;rcases T.pp with⟨e1,e2⟩|⟨e1,e2⟩;rw[e1,e2,if_neg d5,if_pos rfl];rw[e1,e2,if_neg d5,if_pos rfl];exact q2 z (w2 z hz)
 refine⟨fun j x a hj ha=>?_,fun i b hi sJ hb=>?_,fun i hi sJ k=>?_⟩;obtain⟨b,h1,h2,h3⟩:=h.cov j x a hj ha;by_cases en:aA j=n;have e1:hH aA m n j=m:=by unfold hH;rw[if_pos en]
 rw[e1,zE,if_neg d5,if_pos rfl];rw[en]at h1;show ∃b∈o,_;by_cases hf:xH (celN c m).arcs b.Feat=true;obtain⟨z,hz,ez⟩:=MJ.1 hf;refine⟨z,hM.mem_iff.2 (List.mem_append_left _ hz),by omega,fun q q1 q2=>?_⟩;have hpz:(z.To,b.To)∈prs (celN c m).arcs (celN c n).arcs:=List.mem_filterMap.2 ⟨b,h1,by rw[z3i T.dm hz ez];rfl⟩;have:=q2 (z.To,b.To) (w1 _ hpz);rw[this];exact lnk h3 q q1 q2;refine⟨b,hM.mem_iff.2 (List.mem_append_right _ (List.mem_filter.2 ⟨h1,by simpa using hf⟩)),h2,lnk h3⟩;have e1:hH aA m n j=aA j:=by unfold hH;rw[if_neg en]
 rw[e1,zE,if_neg en];by_cases em:aA j=m;rw[if_pos em];rw[em]at h1;exact⟨b,hM.mem_iff.2 (List.mem_append_left _ h1),h2,lnk h3⟩;rw[if_neg em];exact⟨b,h1,h2,lnk h3⟩;by_cases ein:i=n;subst ein
 rw[zE,if_pos rfl]at hb;cases hb;rw[zE,if_neg ein]at hb;by_cases eim:i=m;subst eim;rw[if_pos rfl]at hb;rcases yD.1 (hM.mem_iff.1 hb)with hb |hb;obtain⟨j,x,q1,q2,q3⟩:=h.snd _ b T.hm T.em hb;exact⟨j,x,q1,by unfold hH;rw[q2,if_neg d5],q3⟩;obtain⟨j,x,q1,q2,q3⟩:=h.snd _ b T.hn T.en (List.mem_filter.1 hb).1;exact⟨j,x,q1,by unfold hH;rw[q2,if_pos rfl],q3⟩;rw[if_neg eim]at hb;have Br:aA i=i:=by unfold hH at sJ;split at sJ;exact absurd sJ.symm eim;exact sJ
 obtain⟨j,x,q1,q2,q3⟩:=h.snd i b hi Br hb;exact⟨j,x,q1,by unfold hH;rw[q2,if_neg ein],q3⟩;by_cases ein:i=n;subst ein
 unfold hH at sJ;rw[T.en,if_pos rfl]at sJ;exact absurd sJ d5;rw[zE,if_neg ein];by_cases eim:i=m;subst eim;rw[if_pos rfl];show(eX ws t).testBit k=true↔_;rw[ht,Nat.testBit_and,Bool.and_eq_true,h.kd _ T.hm T.em,h.kd _ T.hn T.en];constructor;rintro⟨g1,g2⟩ j x hj yR;unfold hH at yR;by_cases e:aA j=n;exact g2 j x hj e;rw[if_neg e]at yR;exact g1 j x hj yR;intro g;exact⟨fun j x hj e=>g j x hj (by unfold hH;rw[e,if_neg d5]),fun j x hj e=>g j x hj (by unfold hH;rw[if_pos e])⟩;rw[if_neg eim];have Br:aA i=i:=by unfold hH at sJ;split at sJ;exact absurd sJ.symm eim;exact sJ
 rw[h.kd i hi Br];constructor;intro g j x hj e;refine g j x hj ?_;unfold hH at e;split at e;exact absurd e.symm eim;exact e;intro g j x hj e;exact g j x hj (by unfold hH;rw[e,if_neg ein])
def W4.mrg(hL:AA N ws L){W':I (Int×Int)}{q:Nat->Nat}(T:Mg N p c aA m n)(h:TC ws N L (p::W) c aA)(hq:I4 L q)(hu:W4 N (p::W) aA q)(w:∀z∈W',z∈prs (celN c m).arcs (celN c n).arcs\/z∈W):
  q m=q n/\W4 N W' (hH aA m n) q:=by
 obtain⟨HE,B2⟩:=T.pi;have Wl:=hu.w p (by simp);have e3:q m=q n:=by rcases T.pp with⟨e1,e2⟩|⟨e1,e2⟩;have a1:q m=q p.1.toNat:=hu.r _ _ T.hm (by omega) (by rw[T.em,e1]);have a2:q n=q p.2.toNat:=hu.r _ _ T.hn (by omega) (by rw[T.en,e2]);rw[a1,a2,Wl];have a1:q n=q p.1.toNat:=hu.r _ _ T.hn (by omega) (by rw[T.en,e1]);have a2:q m=q p.2.toNat:=hu.r _ _ T.hm (by omega) (by rw[T.em,e2]);rw[a1,a2,Wl]
 refine⟨e3,fun i j hi hj e=>?_,fun z hz=>?_⟩
 ·have ri:q (aA i)=q i:=hu.r _ _ (T.lt i hi) hi (T.idem i hi);have rj:q (aA j)=q j:=hu.r _ _ (T.lt j hj) hj (T.idem j hj);rw[<-ri,<-rj];unfold hH at e;split at e
  ·next h1=>
   split at e
   ·next h2=>rw[h1,h2]
   ·next h2=>rw[h1,<-e3,e]
  ·next h1=>
   split at e
   ·next h2=>rw[h2,<-e3,e]
   ·next h2=>rw[e]
 rcases w z hz with hz |hz;obtain⟨x,hx,y,hy,hf,rfl⟩:=fu hz;obtain⟨j,xc,q1,q2,q3⟩:=h.snd _ x T.hm T.em hx;obtain⟨j',yc,r1,r2,r3⟩:=h.snd _ y T.hn T.en hy;have jl:=(zG.1 q1).1;have jl':=(zG.1 r1).1;rw[hL.len]at jl jl';refine hq j j' xc yc x y q1 r1 ?_ q3 r3 hf;have a1:q j=q m:=hu.r _ _ jl T.hm (by rw[T.em,q2]);have a2:q j'=q n:=hu.r _ _ jl' T.hn (by rw[T.en,r2]);rw[a1,a2,e3];exact hu.w z (List.mem_cons_of_mem _ hz)
structure zi(ws:I Nat)(mt:Int->Int->V Int):Prop where
 no:∀s t,(0<=s/\s<(ws.length:Int))->(0<=t/\t<(ws.length:Int))->mt s t=none->eX ws s&&&eX ws t=0
 yes:∀s t r,(0<=s/\s<(ws.length:Int))->(0<=t/\t<(ws.length:Int))->mt s t=some r->(0<=r/\r<(ws.length:Int))/\eX ws r=eX ws s&&&eX ws t
def jg{ws:I Nat}{mt:Int->Int->V Int}(B3:zi ws mt){N:Nat}{FB:Int}{L:I aM}(hL:AA N ws L):∀(k:Nat)(W:I (Int×Int))(c:I aT)(aA d:Nat->Nat)(D:Nat),Rnd N D FB ws.length W c aA d->TC ws N L W c aA->W.length+tot c<k->
  ((jX mt k W c aA d).1=true->TC ws N L [] (jX mt k W c aA d).2.1 (jX mt k W c aA d).2.2.1)/\
  ∀q,I4 L q->W4 N W aA q->((jX mt k W c aA d).1=true->W4 N [] (jX mt k W c aA d).2.2.1 q)/\((jX mt k W c aA d).1=false->WA ws L q)
 |0,W,c,aA,d,D,hr,h,hk=>by omega
 |k+1,[],c,aA,d,D,hr,h,hk=>⟨fun _=>h,fun q _ hu=>⟨fun _=>hu,fun e=>(by cases e)⟩⟩|k+1,p::W,c,aA,d,D,hr,h,hk=>by
  simp only[zO]at hk;unfold jX;by_cases e:aA p.1.toNat=aA p.2.toNat;rw[if_pos e];obtain⟨g1,g2⟩:=jg B3 hL k W c aA d D hr.skip (h.skip (hr.wi p (by simp)) e) (by omega);exact⟨g1,fun q hq hu=>g2 q hq ⟨hu.r,fun z hz=>hu.w z (List.mem_cons_of_mem _ hz)⟩⟩;rw[if_neg e];have T:=hr.two;cases hm:mt (celN c (aA p.1.toNat)).kind (celN c (aA p.2.toNat)).kind with
  |none=>
   refine⟨fun q=>(by cases q),fun q hq hu=>⟨fun q=>(by cases q),fun _=>?_⟩⟩;obtain⟨e3,_⟩:=hu.mrg hL (hr.mg e) h hq (W':=W) fun z hz=>.inr hz;have h0:=B3.no _ _ T.km T.kn hm;refine⟨aA p.1.toNat,by rw[hL.len];exact T.hm,fun b=>?_⟩;have hb:(eX ws (celN c (aA p.1.toNat)).kind).testBit b=false\/(eX ws (celN c (aA p.2.toNat)).kind).testBit b=false:=by have:=congrArg (fun x=>x.testBit b) h0;simp only[Nat.testBit_and,Nat.zero_testBit,Bool.and_eq_false_iff]at this;exact this
   have find:∀i,i<N->aA i=i->(eX ws (celN c i).kind).testBit b=false->∃(j:Nat)(x:aM),L[j]? = some x/\aA j=i/\(eX ws x.Typex).testBit b=false:=fun i hi sJ hf=>by
    refine Classical.byContradiction fun eH=>?_;have:=(h.kd i hi sJ b).2 fun j x hj yR=>by rcases hx:(eX ws x.Typex).testBit b with _|_;exact absurd ⟨j,x,hj,yR,hx⟩ eH;rfl
    rw[hf]at this;cases this
   rcases hb with hb |hb;obtain⟨j,x,q1,q2,q3⟩:=find _ T.hm T.em hb;have jl:=(zG.1 q1).1;rw[hL.len]at jl;exact⟨j,x,q1,hu.r _ _ jl T.hm (by rw[T.em,q2]),q3⟩;obtain⟨j,x,q1,q2,q3⟩:=find _ T.hn T.en hb;have jl:=(zG.1 q1).1;rw[hL.len]at jl;exact⟨j,x,q1,by rw[e3];exact hu.r _ _ jl T.hn (by rw[T.en,q2]),q3⟩
  |some t=>obtain⟨ht,hc⟩:=B3.yes _ _ _ T.km T.kn hm;have hT:=T.tot e t W;obtain⟨g1,g2⟩:=jg B3 hL k _ _ _ (GE aA d (aA p.2.toNat)) (D+1) (hr.next e ht) (h.mrg hL (hr.mg e) hc (YY _ _ T.am.up T.an.up).pm (fun z hz=>List.mem_append_left _ (List.mem_reverse.2 hz)) fun z hz=>List.mem_append_right _ hz) (by omega);exact⟨g1,fun q hq hu=>g2 q hq (hu.mrg hL (hr.mg e) h hq fun z hz=>by rcases yD.1 hz with hz |hz;exact .inl (List.mem_reverse.1 hz);exact .inr hz).2⟩
def TC.qg(hL:AA N ws L)(hp:lO N D FB ws.length c aA d)(h:TC ws N L [] c aA):QG ws L aA (cG c aA):=by
 have hN:=hL.len;have eS:=hp.len;have node:∀{i:Nat}{x:aM},(cG c aA).Nodes[i]? = some x->i<N/\c[i]? = some (celN c i)/\x=Ki aA (celN c i):=fun{i x} hx=>by
  simp only[cG,List.getElem?_map]at hx;rcases hc:c[i]? with _|y;rw[hc]at hx;cases hx;have hi:i<N:=by have:=(zG.1 hc).1;omega
  have:=hp.celN hi;rw[hc]at this;cases this;rw[hc]at hx;exact⟨hi,rfl,(Option.some.inj hx).symm⟩
 refine⟨by simp[cG,eS,hN],fun i hi=>?_,fun i x hx hr=>?_,fun i x hx hr=>?_,fun j y a hj ha=>?_,fun i x b hx hr hb=>?_⟩;rw[hN]at hi ⊢;exact⟨hp.rok.lt i hi,hp.rok.idem i hi⟩;obtain⟨hi,hc,rfl⟩:=node hx;exact⟨hp.kd i _ hc,h.kd i hi hr⟩;obtain⟨hi,hc,rfl⟩:=node hx;exact(WV (hp.ar i _ hc).up).dis;obtain⟨b,h1,h2,h3⟩:=h.cov j y a hj ha;have jl:=(zG.1 hj).1;rw[hN]at jl;have hc:=hp.celN (hp.rok.lt j jl);refine⟨Ki aA (celN c (aA j)),B9 aA b,by simp only[cG,List.getElem?_map,hc,zM],List.mem_map_of_mem h1,h2,?_⟩;simp only[B9,rI];rw[h3 aA (fun _ _ _ _ e=>e) (fun _ hz=>by cases hz)];obtain⟨hi,hc,rfl⟩:=node hx;obtain⟨b0,Cs,rfl⟩:=List.mem_map.1 hb;obtain⟨j,y,q1,q2,q3⟩:=h.snd i b0 hi hr Cs;exact⟨j,y,b0,q1,q2,q3,rfl,rfl⟩
def TC.clo(hL:AA N ws L)(hp:lO N D FB ws.length c aA d)(h:TC ws N L [] c aA):I4 L aA:=fun i j x y a b hi hj e ha hb hf=>by
 obtain⟨a',p1,p2,p3⟩:=h.cov i x a hi ha;obtain⟨b',q1,q2,q3⟩:=h.cov j y b hj hb;have il:=(zG.1 hi).1;rw[hL.len]at il;have hc:=hp.celN (hp.rok.lt i il);rw[<-e]at q1;have hd:=(hp.ar _ _ hc).up.dis;have:a'=b':=hd.eq a' p1 b' q1 (by omega);subst this;have e1:=p3 aA (fun _ _ _ _ e=>e) (fun _ hz=>by cases hz);have e2:=q3 aA (fun _ _ _ _ e=>e) (fun _ hz=>by cases hz);omega
def TC.good(hL:AA N ws L)(hw:∀w∈ws,w≠0)(hp:lO N D FB ws.length c aA d)(h:TC ws N L [] c aA):¬ WA ws L aA:=fun⟨i,hi,hb⟩=>by
 rw[hL.len]at hi;have hr:=hp.rok.lt i hi;have KH:=hp.rok.idem i hi;have hc:=hp.celN hr;have hk:=hp.kd _ _ hc;have d5:=hw _ (zX (GZ hk));obtain⟨k,DM⟩:=Nat.exists_testBit_of_ne_zero d5;obtain⟨j,x,q1,q2,q3⟩:=hb k;have:=(h.kd _ hr KH k).1 DM j x q1 q2;rw[q3]at this;cases this
def CZ(k:Nat)(x:aM):aM:=⟨x.Typex,x.Arcs.map (IN k)⟩
def z2p{p1 p2:I aM}{z:Nat}{l10:I aM}{rc:Int->I aM->V (I aM)}{x:aM}(hz:p2[z]? = some x)(hx:x.Arcs.length<=12)(hp:p1.length<=1000)(pV:∀a∈x.Arcs,0<=a.To/\a.To<1000):∀(m i:Nat),x.Arcs.length-i<m->i<=x.Arcs.length->
  Il p1 p2 (z:Int) l10 rc x m (i:Int) ((x.Arcs.take i).map (IN p1.length))=Sd (z:Int) l10 rc x (x.Arcs.map (IN p1.length))
 |0,i,hm,_=>by omega
 |m+1,i,hm,hi=>by
  unfold Il;by_cases aE:i<x.Arcs.length;obtain⟨a,ha,tS⟩:=eI aE;simp only[cH,hz,aP,gS aE,zC,ha,iG aE (show x.Arcs.length<=9223372036854775807 by omega)];rw[fO (by simp only[yA,List.length_take];omega)];have hw:=Mb (pV a tS) (k:=p1.length) (by omega);rw[hw];have:=z2p (l10:=l10) (rc:=rc) hz hx hp pV m (i+1) (by omega) (by omega);rw[j5 ha,List.map_append]at this;exact this;have:i=x.Arcs.length:=by omega
  subst this;simp only[cH,hz,aP,hZ aE,zD,List.take_length]
def z2o{p1 p2:I aM}(hp:p1.length<=1000)(B2:p2.length<=1000)(hx:∀x∈p2,x.Arcs.length<=12/\∀a∈x.Arcs,0<=a.To/\a.To<1000){n:Nat}(hn:20<=n):∀(m i:Nat),p2.length-i<m->i<=p2.length->
  P6 p1 p2 n m (i:Int) (p1++(p2.take i).map (CZ p1.length))=some (p1++p2.map (CZ p1.length))
 |0,i,hm,_=>by omega
 |m+1,i,hm,hi=>by
  unfold P6;by_cases aE:i<p2.length;obtain⟨x,hgx,gU⟩:=eI aE;obtain⟨h1,h2⟩:=hx x gU;simp only[gS aE,zC,cH,hgx,aP];have:=z2p (l10:=p1++(p2.take i).map (CZ p1.length)) (rc:=P6 p1 p2 n m) hgx h1 hp h2 n 0 (by omega) (by omega);rw[zV,List.take_zero,List.map_nil]at this;rw[this,Sd,fO (by simp only[zU,yA,List.length_take];omega),iG aE (by omega)];have ih:=z2o hp B2 hx hn m (i+1) (by omega) (by omega);rw[j5 hgx,List.map_append,<-zT]at ih;exact ih;have:i=p2.length:=by omega
  subst this;simp only[hZ aE,zD,yw,List.take_length]
variable{n:Nat}
def zb8{p1 p2:I aM}(hp:p1.length<=1000)(B2:p2.length<=1000)(hx:∀x∈p2,x.Arcs.length<=12/\∀a∈x.Arcs,0<=a.To/\a.To<1000)(hn:2000<=n):Qn n p1 p2=some (p1++p2.map (CZ p1.length)):=by have:=z2o hp B2 hx (n:=n) (by omega) n 0 (by omega) (by omega);rw[zV,List.take_zero,List.map_nil,List.append_nil]at this;rw[Qn,fO (by omega),this]
def z5w{H:cB}{p1:gT}{r3:I aM}(h3:r3.length<=2000):∀(m i:Nat)(l:I Int),r3.length-i<m->i<=r3.length->l.length=i->
  Ik p1 r3 m (i:Int) l=Sc p1 r3 (l++uX i (r3.length-i))
 |0,i,l,hm,_,_=>by omega
 |m+1,i,l,hm,hi,hl=>by
  unfold Ik;by_cases aE:i<r3.length;simp only[gS aE,zC,iG aE (show r3.length<=9223372036854775807 by omega)];rw[fO (by omega),z5w (H:=H) h3 m (i+1) (l++[(i:Int)]) (by omega) (by omega) (by simp[hl])];congr 1;have:uX i (r3.length-i)=(i:Int)::uX (i+1) (r3.length-(i+1)):=by obtain⟨k,hk⟩:∃k,r3.length-i=k+1:=⟨r3.length-i-1,by omega⟩;rw[hk,show r3.length-(i+1)=k by omega];simp only[uX,List.range_succ_eq_map,zQ,List.map_map,Nat.add_zero,List.cons.injEq,true_and];exact List.map_congr_left fun x _=>by simp only[Function.comp];omega
  rw[this];simp;have:r3.length-i=0:=by omega
  simp only[hZ aE,zD,this];simp[uX]
def z8w{p1:gT}{f:GFS}(hc:p1.Class.length=p1.Cells.length)(hp:p1.Cells.length<=900)(B2:f.Nodes.length<=100)(hx:∀x∈f.Nodes,x.Arcs.length<=12/\∀a∈x.Arcs,0<=a.To/\a.To<1000)(hn:3000<=n):
  Qm n p1 f=some (⟨p1.H,p1.Cells++f.Nodes.map (CZ p1.Cells.length),p1.Class++uX p1.Cells.length f.Nodes.length,p1.Marks⟩,(p1.Cells.length:Int)):=by simp only[Qm,zb8 (p1:=p1.Cells) (p2:=f.Nodes) (by omega) (by omega) hx (n:=n) (by omega),aP];rw[fO (by omega),z5w (H:=p1.H) (by simp only[zU,yA];omega) n p1.Cells.length p1.Class (by simp only[zU,yA];omega) (by simp only[zU,yA];omega) hc,Sc];simp only[zU,yA,Nat.add_sub_cancel_left]
structure CK(N:Nat)(cl:I Int)(r:Nat->Nat):Prop where
 len:cl.length=N
 get:∀i,i<N->cl[i]? = some (r i:Int)
 le:∀i,i<N->r i<=i
 idem:∀i,i<N->r (r i)=r i
variable{N:Nat}
variable{cl:I Int}
variable{r:Nat->Nat}
def CK.lt(h:CK N cl r){i:Nat}(hi:i<N):r i<N:=by have:=h.le i hi;omega
def CK.at(h:CK N cl r){v:Int}(hv:0<=v/\v<(N:Int)):aB cl v=some (r v.toNat:Int):=by rw[show v=((v.toNat:Nat):Int) by omega,cH,h.get _ (by omega),zZ]
def mD(lo hi:Int)(l:I Int):I Int:=l.map fun x=>if x==hi then lo else x
def z2f{N:Nat}(hN:N<=100000):∀(m i:Nat),N-i<m->i<=N->Iy (N:Int) m (i:Int) (uX 0 i)=some (uX 0 N)
 |0,i,hm,_=>by omega
 |m+1,i,hm,hi=>by
  unfold Iy;by_cases aE:i<N;simp only[gS aE,zC,iG aE (show N<=9223372036854775807 by omega)];rw[fO (by rw[fp];omega)];have:=z2f hN m (i+1) (by omega) (by omega);rw[z8y,Nat.zero_add]at this;exact this;have:i=N:=by omega
  subst this;simp only[hZ aE,zD,mp]
def z74(hN:N<=100000)(hn:N<n):vz n (N:Int)=some (uX 0 N):=by have:=z2f hN n 0 (by omega) (by omega);rw[zV]at this;exact this
def qqg{v11:Type}(a b:I v11)(x y:v11)(k:Nat)(h:a.length=k):(a++x::b).set (0+k) y=a++y::b:=by subst h;simp
def xr(lo hi:Int)(a b:I Int):mD lo hi (a++b)=mD lo hi a++mD lo hi b:=List.map_append
def S3{lo hi x:Int}(h:(x==hi)=true):mD lo hi [x]=[lo]:=by simp only[mD,zQ,List.map_nil,h,if_true]
def S4{lo hi x:Int}(h:(x==hi)=false):mD lo hi [x]=[x]:=by simp only[mD,zQ,List.map_nil,h];rfl
def qza{x4 x6 x8 x10:Int}:∀(m:Nat)(a b:I Int),b.length<m->a.length+b.length<=100000->
  PH x4 x6 x8 x10 m (a.length:Int) (mD (if x6<x4 then x6 else x4) (if x10>x8 then x10 else x8) a++b)=some (mD (if x6<x4 then x6 else x4) (if x10>x8 then x10 else x8) (a++b))
 |0,a,b,hm,_=>by omega
 |m+1,a,[],hm,hl=>by
  unfold PH;have:decide (((a.length:Nat):Int)<((mD (if x6<x4 then x6 else x4) (if x10>x8 then x10 else x8) a++[]).length:Int))=false:=by simp[mD]
  rw[this,zD,ml,List.append_nil,List.append_nil]
 |m+1,a,x::b,hm,hl=>by
  simp only[zO]at hm hl;unfold PH;have h1:decide (((a.length:Nat):Int)<((mD (if x6<x4 then x6 else x4) (if x10>x8 then x10 else x8) a++x::b).length:Int))=true:=by simp[mD];omega
  have h2:(mD (if x6<x4 then x6 else x4) (if x10>x8 then x10 else x8) a++x::b)[a.length]? = some x:=by rw[List.getElem?_append_right (by simp[mD])];simp[mD]
  have hw:IntKind.i64.wrap ((a.length:Int)+1)=((a.length+1:Nat):Int):=by rw[wr (by omega) (by omega)];simp
  have ih:=qza (x4:=x4) (x6:=x6) (x8:=x8) (x10:=x10) m (a++[x]) b (by omega) (by simp only[zU,zO,zS];omega);simp only[zU,zO,zS,Nat.zero_add]at ih;simp only[h1,zC,cH,h2,aP,zZ,Sr,hw];have e3:a++[x]++b=a++x::b:=by simp
  by_cases e:(x==(if x10>x8 then x10 else x8))=true;rw[xr,S3 e,zT,List.cons_append,List.nil_append]at ih;rw[e,zC,qqg _ _ _ _ _ (by simp[mD]),ih,e3];rw[Bool.not_eq_true]at e;rw[xr,S4 e,zT,List.cons_append,List.nil_append]at ih;rw[e,zD,ih,e3]
variable{a:Nat}
variable{b:Nat}
def Lp:(if(b:Int)<(a:Int)then(b:Int)else(a:Int))=((min a b:Nat):Int):=by split;rw[Nat.min_eq_right (by omega)];rw[Nat.min_eq_left (by omega)]
def zw:(if(b:Int)>(a:Int)then(b:Int)else(a:Int))=((max a b:Nat):Int):=by split;rw[Nat.max_eq_right (by omega)];rw[Nat.max_eq_left (by omega)]
def CK.mrg(h:CK N cl r)(ha:a<N)(hb:b<N):CK N (mD ((min (r a) (r b):Nat):Int) ((max (r a) (r b):Nat):Int) cl) (hH r (min (r a) (r b)) (max (r a) (r b))):=by
 have ia:=h.idem a ha;have ib:=h.idem b hb;have Ku:r (min (r a) (r b))=min (r a) (r b):=by rcases Nat.le_total (r a) (r b)with h1 |h1;rw[Nat.min_eq_left h1,ia];rw[Nat.min_eq_right h1,ib]
 refine⟨by simp[mD,h.len],fun i hi=>?_,fun i hi=>?_,fun i hi=>?_⟩;simp only[mD,List.getElem?_map,h.get i hi,zM,zA];unfold hH;by_cases e:r i=max (r a) (r b);rw[if_pos e,e];simp;rw[if_neg e];have:((r i:Int)==((max (r a) (r b):Nat):Int))=false:=by simp only[beq_eq_false_iff_ne,ne_eq];omega
 rw[this];rfl
 ·have:=h.le i hi;unfold hH;split
  ·next e=>omega
  exact this
 have:=h.idem i hi;unfold hH;by_cases e:r i=max (r a) (r b);rw[if_pos e,Ku];split<;>rfl;rw[if_neg e,this,if_neg e]
def z8a(h:CK N cl r)(hN:N<=100000){a b:Int}(ha:0<=a/\a<(N:Int))(hb:0<=b/\b<(N:Int))(hn:N<n):
  Rb n cl a b=some (mD ((min (r a.toNat) (r b.toNat):Nat):Int) ((max (r a.toNat) (r b.toNat):Nat):Int) cl):=by have hl:=h.len;simp only[Rb,h.at ha,h.at hb,aP];rw[fO (by omega)];have:=qza (x4:=(r a.toNat:Int)) (x6:=(r b.toNat:Int)) (x8:=(r a.toNat:Int)) (x10:=(r b.toNat:Int)) n [] cl (by omega) (by simp only[zS];omega);simp only[zS,mD,List.map_nil,List.nil_append,zV]at this;rw[this,Lp,zw];rfl
def z04{l:I aK}{f:Int}(hl:l.length<=100000):∀(m i:Nat),l.length-i<m->i<=l.length->Jg l f m (i:Int)=some (match (l.drop i).find? fun x=>x.Feat==f with |some x=>(x.To,true)|none=>(0,false))
 |0,i,hm,_=>by omega
 |m+1,i,hm,hi=>by unfold Jg;by_cases aE:i<l.length;obtain⟨x,hx,_⟩:=eI aE;simp only[gS aE,zC,cH,hx,aP,iG aE (show l.length<=9223372036854775807 by omega),aX hx,List.find?_cons];rcases e:x.Feat==f with _|_;simp only[zD];exact z04 hl m (i+1) (by omega) (by omega);simp only[zC];simp only[hZ aE,zD,bV aE,sg,List.find?_nil]
def z6g{l:I aK}{f:Int}(hl:l.length<=100000)(hn:l.length<n):ym n l f=some (match l.find? fun x=>x.Feat==f with |some x=>(x.To,true)|none=>(0,false)):=by have:=z04 (f:=f) hl n 0 (by omega) (by omega);rw[zV,List.drop_zero]at this;exact this
def ua(q:i5):Int×Int:=(q.E0,q.E1)
def z7m{a b:I aK}(ha:mA a)(hb:mA b):mA (a++nG a b):=by unfold mA at*;rw[List.pairwise_append];refine⟨ha,hb.filter _,fun x hx y hy e=>?_⟩;have:=(List.mem_filter.1 hy).2;have h2:xH a y.Feat=true:=MJ.2 ⟨x,hx,e⟩;rw[h2]at this;cases this
def IH{cells:I aT}{m n:Nat}{x y:aT}(hx:cells[m]? = some x)(hy:cells[n]? = some y)(vW:m≠n)(t:Int){o:I aK}{k:Nat}(ho:o.length+k=x.arcs.length+y.arcs.length):
  tot (xG cells m n t o)+k=tot cells:=by
 have h1:=Gq ⟨-1,t,o⟩ hx;have FK:(cells.set m ⟨-1,t,o⟩)[n]? = some y:=by rw[List.getElem?_set_ne vW];exact hy
 have h2:=Gq ⟨(m:Int),0,[]⟩ FK;simp only[xG,zS]at*;omega
def xz{v11:Type}{l:I v11}{N i:Nat}(hi:i<N){x:v11}(hx:l[i]? = some x):iU l 0 ((N:Int).toNat) (i:Int)=some x:=by rw[iU,if_pos (by simp only[zZ];omega),Nat.zero_add,zZ,hx]
def z9o{p1:I aM}{n:Nat}{z:Int}{A:I (I aK)}{rc:Int->I i5->I (I aK)->I Int->V (I Int)}{x y:Nat}{out:I Int}{a b:I aK}(hx:x<p1.length)(hy:y<p1.length)
  (ha:A[min x y]? = some a) (hb:A[max x y]? = some b) (hda:mA a) (fA:a.length<=50000) (Cr:b.length<=50000) (hn:100000<=n) {T:I i5} (hT:T.length<=1000000):∀(m k:Nat),b.length-k<m->k<=b.length->
  T7 p1 n z A rc (x:Int) (y:Int) (x:Int) (y:Int) out m (k:Int) (a++nG a (b.take k)) (T++(prs a (b.take k)).map pk)=
   Ss p1 z A rc (x:Int) (y:Int) out (a++nG a b) (T++(prs a b).map pk)
 |0,k,hm,_=>by omega
 |m+1,k,hm,hk=>by
  unfold T7;have h1:iU A 0 ((p1.length:Int).toNat) (if(y:Int)>(x:Int)then(y:Int)else(x:Int))=some b:=by rw[zw];exact xz (by omega) hb
  have h2:iU A 0 ((p1.length:Int).toNat) (if(y:Int)<(x:Int)then(y:Int)else(x:Int))=some a:=by rw[Lp];exact xz (by omega) ha
  have nO:=Gu a (b.take k);have DF:(b.take k).length<=k:=by rw[List.length_take];omega
  simp only[h1,aP];by_cases aE:k<b.length;obtain⟨v,hv,K?⟩:=eI aE;simp only[gS aE,zC,cH,hv,aP,h2,z6g (f:=v.Feat) (show a.length<=100000 by omega) (show a.length<n by omega),iG aE (show b.length<=9223372036854775807 by omega),Sy];have ih:=z9o (z:=z) (rc:=rc) (out:=out) hx hy ha hb hda fA Cr hn hT m (k+1) (by omega) (by omega);rw[j5 hv,ru]at ih;cases hf:a.find? (fun w=>w.Feat==v.Feat)with
  |some w=>
   have hw:=List.mem_of_find?_eq_some hf;have Km:w.Feat=v.Feat:=by have:=List.find?_some hf;simpa using this
   have hh:xH a v.Feat=true:=MJ.2 ⟨w,hw,Km⟩;rw[qq5 hda hw Km,hh]at ih;simp only[zC];rw[fO (by simp only[zU,yA];omega)];rw[<-ih];simp[pk]
  |none=>
   have eH:∀w∈a,w.Feat≠v.Feat:=fun w hw e=>by have:=List.find?_eq_none.1 hf w hw;simp[e]at this
   have hh:xH a v.Feat=false:=by rw[Bool.eq_false_iff];intro e;obtain⟨w,hw,e⟩:=MJ.1 e;exact eH w hw e
   rw[qnz eH,hh]at ih;simp only[zD];rw[fO (by simp only[zU];omega)];rw[<-ih];simp
  have:k=b.length:=by omega
  subst this;simp only[hZ aE,zD,List.take_length]
def z9n{p1:I aM}{n:Nat}{z:Int}{T:I i5}{A:I (I aK)}{rc:Int->I i5->I (I aK)->I Int->V (I Int)}{x39 x43 x47 x51:Int}:∀(m:Nat)(a b:I Int),b.length<m->a.length+b.length<=100000->
  PI p1 n z T A rc x39 x43 x47 x51 m (a.length:Int) (mD (if x43<x39 then x43 else x39) (if x51>x47 then x51 else x47) a++b)=Su p1 n z T A rc x39 x43 x47 x51 (mD (if x43<x39 then x43 else x39) (if x51>x47 then x51 else x47) (a++b))
 |0,a,b,hm,_=>by omega
 |m+1,a,[],hm,hl=>by
  unfold PI;have:decide (((a.length:Nat):Int)<((mD (if x43<x39 then x43 else x39) (if x51>x47 then x51 else x47) a++[]).length:Int))=false:=by simp[mD]
  rw[this,zD,List.append_nil,List.append_nil]
 |m+1,a,x::b,hm,hl=>by
  simp only[zO]at hm hl;unfold PI;have h1:decide (((a.length:Nat):Int)<((mD (if x43<x39 then x43 else x39) (if x51>x47 then x51 else x47) a++x::b).length:Int))=true:=by simp[mD];omega
  have h2:(mD (if x43<x39 then x43 else x39) (if x51>x47 then x51 else x47) a++x::b)[a.length]? = some x:=by rw[List.getElem?_append_right (by simp[mD])];simp[mD]
  have hw:IntKind.i64.wrap ((a.length:Int)+1)=((a.length+1:Nat):Int):=by rw[wr (by omega) (by omega)];simp
  have ih:=z9n (p1:=p1) (n:=n) (z:=z) (T:=T) (A:=A) (rc:=rc) (x39:=x39) (x43:=x43) (x47:=x47) (x51:=x51) m (a++[x]) b (by omega) (by simp only[zU,zO,zS];omega);simp only[zU,zO,zS,Nat.zero_add]at ih;simp only[h1,zC,cH,h2,aP,zZ,Sx,hw];have e3:a++[x]++b=a++x::b:=by simp
  by_cases e:(x==(if x51>x47 then x51 else x47))=true;rw[xr,S3 e,zT,List.cons_append,List.nil_append]at ih;rw[e,zC,qqg _ _ _ _ _ (by simp[mD]),ih,e3];rw[Bool.not_eq_true]at e;rw[xr,S4 e,zT,List.cons_append,List.nil_append]at ih;rw[e,zD,ih,e3]
structure CS(N:Nat)(L:I aM)(W:I (Int×Int))(A:I (I aK))(out:I Int)(C:I aT)(r:Nat->Nat):Prop where
 ck:CK N out r
 cl:C.length=N
 al:A.length=N
 ar:∀i,i<N->r i=i->A[i]? = some (celN C i).arcs
 ds:∀i,i<N->mA (celN C i).arcs
 pi:∀p∈W,Ou N p
 tc:TC [] N L W C r
structure CD(N:Nat)(L:I aM)(W:I (Int×Int))(r:Nat->Nat)(pU:I Int)(C':I aT)(r':Nat->Nat):Prop where
 ck:CK N pU r'
 cl:C'.length=N
 ds:∀i,i<N->mA (celN C' i).arcs
 tc:TC [] N L [] C' r'
 mono:∀i j,r i=r j->r' i=r' j
 prs:∀p∈W,r' p.1.toNat=r' p.2.toNat
 und:∀q,I4 L q->W4 N W r q->W4 N [] r' q
def ag{N:Nat}{L:I aM}(hL:AA N [] L)(hN:N<=1000){n:Nat}(hn:200000<=n):∀(m z:Nat)(T:I i5)(A:I (I aK))(out:I Int)(C:I aT)(r:Nat->Nat),
  CS N L ((T.drop z).map ua) A out C r->z<=T.length->T.length-z+tot C<m->T.length+tot C<=50000->
  ∃pU C' r',BX L n m (z:Int) T A out=some pU/\CD N L ((T.drop z).map ua) r pU C' r'
 |0,z,T,A,out,C,r,_,_,hm,_=>by omega
 |m+1,z,T,A,out,C,r,h,hz,hm,hB=>by
  unfold BX;have rL:=hL.len;by_cases aE:z<T.length;obtain⟨p,hp,_⟩:=eI aE;have HG:=aX hp;rw[HG,zQ]at h ⊢;have Wm:=h.pi (ua p) (by simp);obtain⟨i1,i2⟩:=Wm;simp only[ua]at i1 i2;have c1:=h.ck.at i1;have c2:=h.ck.at i2;have l1:=h.ck.lt (i:=p.E0.toNat) (by omega);have l2:=h.ck.lt (i:=p.E1.toNat) (by omega);simp only[gS aE,zC,cH,hp,aP,c1,c2];rw[Lp,zw];have hw:IntKind.i64.wrap ((z:Int)+1)=((z+1:Nat):Int):=iG aE (by omega);by_cases e:r p.E0.toNat=r p.E1.toNat;have eb:((((min (r p.E0.toNat) (r p.E1.toNat):Nat):Int))==((max (r p.E0.toNat) (r p.E1.toNat):Nat):Int))=true:=by rw[e];simp
  rw[eb,zC,hw];obtain⟨pU,C',r',g1,g2⟩:=ag hL hN hn m (z+1) T A out C r ⟨h.ck,h.cl,h.al,h.ar,h.ds,fun q hq=>h.pi q (List.mem_cons_of_mem _ hq),h.tc.skip (h.pi _ (by simp)) e⟩ (by omega) (by omega) hB;refine⟨pU,C',r',g1,⟨g2.ck,g2.cl,g2.ds,g2.tc,g2.mono,fun q hq=>?_,fun q hq hu=>g2.und q hq ⟨hu.r,fun w hw=>hu.w w (List.mem_cons_of_mem _ hw)⟩⟩⟩;rcases zI.1 hq with rfl |hq;exact g2.mono _ _ e;exact g2.prs q hq;have eb:((((min (r p.E0.toNat) (r p.E1.toNat):Nat):Int))==((max (r p.E0.toNat) (r p.E1.toNat):Nat):Int))=false:=by rw[beq_eq_false_iff_ne];intro q;omega
  have idl:r (min (r p.E0.toNat) (r p.E1.toNat))=min (r p.E0.toNat) (r p.E1.toNat):=by rcases Nat.le_total (r p.E0.toNat) (r p.E1.toNat)with g |g;rw[Nat.min_eq_left g];exact h.ck.idem _ (by omega);rw[Nat.min_eq_right g];exact h.ck.idem _ (by omega)
  have idh:r (max (r p.E0.toNat) (r p.E1.toNat))=max (r p.E0.toNat) (r p.E1.toNat):=by rcases Nat.le_total (r p.E0.toNat) (r p.E1.toNat)with g |g;rw[Nat.max_eq_right g];exact h.ck.idem _ (by omega);rw[Nat.max_eq_left g];exact h.ck.idem _ (by omega)
  generalize FS:min (r p.E0.toNat) (r p.E1.toNat)=lo at*;generalize UT:max (r p.E0.toNat) (r p.E1.toNat)=hi at*;have llo:lo<N:=by omega
  have lhi:hi<N:=by omega
  have lne:lo≠hi:=by omega
  have a1:=h.ar lo llo idl;have a2:=h.ar hi lhi idh;have hCl:=h.cl;have clo:C[lo]? = some (celN C lo):=by rw[celN,List.getElem?_eq_getElem (by omega)];rfl
  have chi:C[hi]? = some (celN C hi):=by rw[celN,List.getElem?_eq_getElem (by omega)];rfl
  have t1:=Gr clo;have t2:=Gr chi;have nO:=Gu (celN C lo).arcs (celN C hi).arcs;have hM:((celN C lo).arcs++nG (celN C lo).arcs (celN C hi).arcs).length+(prs (celN C lo).arcs (celN C hi).arcs).length=(celN C lo).arcs.length+(celN C hi).arcs.length:=by rw[zU];omega
  have htm:=IH clo chi lne 0 hM;have hMg:Mg N (ua p) C r lo hi:=⟨h.cl,llo,lhi,idl,idh,lne,fun i hi=>h.ck.lt hi,h.ck.idem,h.pi _ (by simp),by simp only[ua];omega,h.ds lo llo⟩;rw[eb,zD];have l3:=z9n (p1:=L) (n:=n) (z:=(z:Int)) (T:=T) (A:=A) (rc:=BX L n m) (x39:=(r p.E0.toNat:Int)) (x43:=(r p.E1.toNat:Int)) (x47:=(r p.E0.toNat:Int)) (x51:=(r p.E1.toNat:Int)) n [] out (by rw[h.ck.len];omega) (by rw[h.ck.len];simp only[zS];omega);simp only[zS,mD,List.map_nil,List.nil_append,zV]at l3;rw[l3,Su];have i3:iU A 0 ((L.length:Int).toNat) (if(r p.E1.toNat:Int)<(r p.E0.toNat:Int)then(r p.E1.toNat:Int)else(r p.E0.toNat:Int))=some (celN C lo).arcs:=by rw[Lp,FS];exact xz (by omega) a1
  rw[i3,aP,fO (by omega)];have l4:=z9o (p1:=L) (n:=n) (z:=(z:Int)) (A:=A) (rc:=BX L n m) (x:=r p.E0.toNat) (y:=r p.E1.toNat) (out:=List.map (fun x=>if x==(if(r p.E1.toNat:Int)>(r p.E0.toNat:Int)then(r p.E1.toNat:Int)else(r p.E0.toNat:Int))then(if(r p.E1.toNat:Int)<(r p.E0.toNat:Int)then(r p.E1.toNat:Int)else(r p.E0.toNat:Int))else x) out)
   (by omega) (by omega) (by rw[FS];exact a1) (by rw[UT];exact a2) (h.ds lo llo) (by omega) (by omega) (by omega) (T:=T) (by omega) n 0 (by omega) (by omega)
  simp only[List.take_zero,nG,prs,List.filter_nil,List.filterMap_nil,List.map_nil,List.append_nil,zV]at l4;rw[l4,Ss,i3,aP,hw,Lp,zw,FS,UT,zZ];have hprs:(celN C hi).arcs.filterMap (fun y=>Option.map (fun x=>(x.To,y.To)) ((celN C lo).arcs.find? fun x=>x.Feat==y.Feat))=prs (celN C lo).arcs (celN C hi).arcs:=rfl;have iB:(celN C hi).arcs.filter (fun y=>!xH (celN C lo).arcs y.Feat)=nG (celN C lo).arcs (celN C hi).arcs:=rfl;rw[hprs,iB];have wW:=h.ck.mrg (a:=p.E0.toNat) (b:=p.E1.toNat) (by omega) (by omega);rw[FS,UT]at wW;have UW:((T++(Go.Proofs.prs (celN C lo).arcs (celN C hi).arcs).map pk).drop (z+1)).map ua=(T.drop (z+1)).map ua++Go.Proofs.prs (celN C lo).arcs (celN C hi).arcs:=by rw[List.drop_append_of_le_length (by omega),List.map_append,List.map_map];congr 1;have:(ua ∘ pk)=(id:Int×Int->Int×Int):=funext fun q=>rfl;rw[this,List.map_id]
  have zE:=qyk (c:=C) (m:=lo) (n:=hi) (by omega) (by omega) lne 0 ((celN C lo).arcs++nG (celN C lo).arcs (celN C hi).arcs);have inr:∀i,i<N->r i=i->∀b∈(celN C i).arcs,0<=b.To/\b.To<(N:Int):=fun i hi sJ b hb=>by obtain⟨j,c,q1,q2,q3⟩:=h.tc.snd i b hi sJ hb;exact hL.ar j c b q1 q3
  have Ko:∀w∈Go.Proofs.prs (celN C lo).arcs (celN C hi).arcs,w∈(T.drop (z+1)).map ua++Go.Proofs.prs (celN C lo).arcs (celN C hi).arcs:=fun w hw=>List.mem_append_right _ hw;have xP:∀w∈(T.drop (z+1)).map ua,w∈(T.drop (z+1)).map ua++Go.Proofs.prs (celN C lo).arcs (celN C hi).arcs:=fun w hw=>List.mem_append_left _ hw;have Wb:=h.tc.mrg hL hMg (t:=0) (o:=(celN C lo).arcs++nG (celN C lo).arcs (celN C hi).arcs) (by simp[eX]) (List.Perm.refl _) Ko xP;obtain⟨pU,C',r',g1,g2⟩:=ag hL hN hn m (z+1) (T++(Go.Proofs.prs (celN C lo).arcs (celN C hi).arcs).map pk) (A.set lo ((celN C lo).arcs++nG (celN C lo).arcs (celN C hi).arcs)) (mD (lo:Int) (hi:Int) out) (xG C lo hi 0 ((celN C lo).arcs++nG (celN C lo).arcs (celN C hi).arcs)) (hH r lo hi)
   (by
    rw[UW];refine⟨wW,by simp[xG,h.cl],by simp[h.al],fun i jJ sJ=>?_,fun i jJ=>?_,fun q hq=>?_,Wb⟩;rw[zE];have hih:i≠hi:=fun q=>by subst q;unfold hH at sJ;rw[idh,if_pos rfl]at sJ;exact lne sJ
    rw[if_neg hih];by_cases eil:i=lo;subst eil;rw[if_pos rfl,List.getElem?_set_self (by rw[h.al];exact jJ)];rw[if_neg eil,List.getElem?_set_ne (fun q=>eil q.symm)];refine h.ar i jJ ?_;unfold hH at sJ;split at sJ;exact absurd sJ.symm eil;exact sJ;rw[zE];split;exact List.Pairwise.nil;split;exact z7m (h.ds lo llo) (h.ds hi lhi);exact h.ds i jJ;rcases yD.1 hq with hq |hq;exact h.pi q (List.mem_cons_of_mem _ hq);obtain⟨x,hx,y,hy,_,rfl⟩:=fu hq;exact⟨inr lo llo idl x hx,inr hi lhi idh y hy⟩)
   (by rw[zU];omega) (by simp only[zU,yA];omega) (by simp only[zU,yA];omega)
  rw[UW]at g2;refine⟨pU,C',r',g1,⟨g2.ck,g2.cl,g2.ds,g2.tc,fun i j m7=>g2.mono i j (kg m7),fun q hq=>?_,fun q hq hu=>?_⟩⟩;rcases zI.1 hq with rfl |hq;refine g2.mono _ _ ?_;simp only[ua];unfold hH;have:(r p.E0.toNat=lo/\r p.E1.toNat=hi)\/(r p.E0.toNat=hi/\r p.E1.toNat=lo):=by omega
  rcases this with⟨q1,q2⟩|⟨q1,q2⟩;rw[q1,q2,if_neg lne,if_pos rfl];rw[q1,q2,if_neg lne,if_pos rfl];exact g2.prs q (xP q hq);refine g2.und q hq (hu.mrg hL hMg h.tc hq fun w hw=>?_).2;rcases yD.1 hw with hw |hw;exact .inr hw;exact .inl hw;have:z=T.length:=by omega
  subst this;rw[List.drop_length,List.map_nil]at h ⊢;simp only[hZ aE,zD,mn];exact⟨out,C,r,rfl,h.ck,h.cl,h.ds,h.tc,fun _ _ q=>q,(fun _ hq=>(by cases hq)),fun _ _ hu=>hu⟩
end Go.Proofs
