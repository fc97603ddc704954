import Derived.Test.YtldlchbgolpkaaaGreatP18
set_option linter.all false
namespace Go.Proofs
open Go Go.Rx Go.Vx Go.Shelf Go.Sort
set_option maxRecDepth 10000
variable{d:List bL}
variable{n:Nat}
theorem zap(h:AF d){all:List Str}(eS:all.length<=12){s:Str}(hs:lB d s)(ha:∀x∈all,lB d x)(hn:5000<=n):∃w,Qa n d all s=some (bt w)/\w<4096/\∀i,w.testBit i=true↔∃t,all[i]? = some t/\oD d t s:=by
 obtain⟨low,b1,b2,b3,b4⟩:=z6q h hs hn;have:=jK (l:=all) (by omega) (F:=fun m z (s:List Nat)=>P9 all n low m z (s.map fun(i:Nat)=>(i:Int))) (fun i s=>s.length<=i/\∀j,j∈s↔j<i/\∃t,all[j]? = some t/\t∈low) (Q:=fun r=>∃w,r=bt w/\w<4096/\∀i,w.testBit i=true↔∃t,all[i]? = some t/\oD d t s)
  (fun m i x s' hx aE bG hw hI ih=>by
   obtain⟨i1,i2⟩:=hI;simp only[P9,bG,zC,cK,hx,aO,OT (l:=low) (by omega) x (n:=n) (by omega),Rp,hw,yA];by_cases hm:x∈low;simp only[hm,yC,zC];rw[fG (by omega)];have:=ih (s'++[i]) ⟨by simp;omega,fun j=>by rw[yD,i2,List.mem_singleton];constructor;rintro(⟨h1,h2⟩|rfl);exact⟨by omega,h2⟩;exact⟨by omega,x,hx,hm⟩;rintro⟨h1,h2⟩;by_cases e:j=i;exact .inr e;exact .inl ⟨by omega,h2⟩⟩;rw[List.map_append]at this;exact this;simp only[hm,yB,zD];exact ih s' ⟨by omega,fun j=>by
    rw[i2];constructor;rintro⟨h1,h2⟩;exact⟨by omega,h2⟩;rintro⟨h1,t,h2,h3⟩;refine⟨?_,t,h2,h3⟩;have:j≠i:=fun e=>by subst e;rw[hx]at h2;cases h2;exact hm h3
    omega⟩)
  (fun m s' bG hI=>by
   obtain⟨i1,i2⟩:=hI;have dP:∀i∈s',i<12:=fun i hi=>by have:=((i2 i).1 hi).1;omega
   simp only[P9,bG,zD,yf,Ts (l:=s') (by omega) dP hn,aO];refine⟨_,rfl,JF s',rfl,cf s' 0 dP (by omega),fun i=>?_⟩;rw[JF,z9q];simp only[Nat.zero_testBit,Bool.false_or,decide_eq_true_eq];rw[i2];constructor;rintro⟨_,t,h1,h2⟩;exact⟨t,h1,((b4 t).1 h2).2⟩;rintro⟨t,h1,h2⟩;exact⟨(zG.1 h1).1,t,h1,(b4 t).2 ⟨ha t (zX h1),h2⟩⟩) n 0 [] (by omega) (by omega) ⟨by simp,fun j=>by simp⟩
 obtain⟨r,h1,w,rfl,h2,h3⟩:=this;rw[zV]at h1;exact⟨w,by simp only[Qa,b1,aO];exact h1,h2,h3⟩
structure FI(c0 ws:List Nat):Prop where
 pre:∃t,ws=c0++t
 nod:ws.Nodup
 ok:∀a∈ws,a<4096/\a≠0/\∃b∈c0,a&&&b=a
 len:ws.length<=257
def LJ(ws:List Nat)(i k:Nat):Prop:=∀i' k' a b,k'<i'->(i'<i\/(i'=i/\k'<k))->ws[i']? = some a->ws[k']? = some b->a&&&b=0\/a&&&b∈ws
variable{ws:List Nat}
theorem LJ.app{t:List Nat}{i k:Nat}(h:LJ ws i k)(hi:i<ws.length):LJ (ws++t) i k:=fun i' k' a b h1 h2 h3 h4=>by
 have e1:i'<ws.length:=by omega
 rw[List.getElem?_append_left e1]at h3;rw[List.getElem?_append_left (by omega)]at h4;rcases h i' k' a b h1 h2 h3 h4 with h5 |h5;exact .inl h5;exact .inr (List.mem_append_left _ h5)
theorem wj{c0:List Nat}{n:Nat}(hn:5000<=n){i:Nat}{rc:Int->List (List Int)->Option (List (List Int))}{Q:List (List Int)->Prop}(KD:i<=256)(K5:∀ws',FI c0 ws'->i<ws'.length->(ws'.length<=256->LJ ws' (i+1) 0)->∃r,rc ((i+1:Nat):Int) (ws'.map bt)=some r/\Q r):
  ∀(m k:Nat)(ws:List Nat),i-k<m->k<=i->FI c0 ws->i<ws.length->(ws.length<=256->LJ ws i k)->∃r,T6 n i rc m k (ws.map bt)=some r/\Q r
 |0,k,ws,hm,_,_,_,_=>by omega
 |m+1,k,ws,hm,hk,hf,hi,hc=>by
  have hl:=hf.len;have px:IntKind.i64.wrap ((i:Int)+1)=((i+1:Nat):Int):=EA (by omega) (by omega);unfold T6;by_cases aE:k<i;have e0:decide ((k:Int)<(i:Int))=true:=by simp;omega
  simp only[e0,zC,yA];by_cases CJ:ws.length<=256;obtain⟨a,ha,xD⟩:=eM hi;obtain⟨b,hb,gv⟩:=eM (show k<ws.length by omega);have e1:decide ((ws.length:Int)<=256)=true:=by simp;omega
  have ga:(ws.map bt)[i]? = some (bt a):=by rw[List.getElem?_map,ha];rfl
  have gb:(ws.map bt)[k]? = some (bt b):=by rw[List.getElem?_map,hb];rfl
  have hwk:IntKind.i64.wrap ((k:Int)+1)=((k+1:Nat):Int):=EA (by omega) (by omega);have oka:=hf.ok a xD;have okb:=hf.ok b gv;simp only[e1,aO,zC,cK,ga,gb,z8w oka.1 okb.1 (show 5<=n by omega),Ut (ws:=ws) (by omega) (b:=a&&&b) hn,So,hwk];have uI:∀t,(a&&&b=0\/a&&&b∈ws++t)->LJ (ws++t) i (k+1):=fun t ht i' k' x y h1 h2 h3 h4=>by by_cases e:i'=i/\k'=k;obtain⟨rfl,rfl⟩:=e;rw[List.getElem?_append_left hi,ha]at h3;rw[List.getElem?_append_left (by omega),hb]at h4;cases h3;cases h4;exact ht;exact(hc CJ).app hi i' k' x y h1 (by omega) h3 h4
  by_cases hz:a&&&b=0;have e2:decide (((bt (a&&&b)).length:Int)>0)=false:=by rw[hz];simp[R3]
  simp only[e2,zD,aO];refine wj hn KD K5 m (k+1) ws (by omega) (by omega) hf hi fun _=>?_;have:=uI [] (.inl hz)
  rwa [List.append_nil]at this
  have e2:decide (((bt (a&&&b)).length:Int)>0)=true:=by rw[sR hz];simp
  simp only[e2,zC,aO];by_cases dJ:a&&&b∈ws;simp only[dJ,yC,Bool.not_true,zD];refine wj hn KD K5 m (k+1) ws (by omega) (by omega) hf hi fun _=>?_;have:=uI [] (.inr (by simpa using dJ))
  rwa [List.append_nil]at this
  simp only[dJ,yB,Bool.not_false,zC];rw[fG (by omega)];have Wj:FI c0 (ws++[a&&&b]):=by obtain⟨t,ht⟩:=hf.pre;refine⟨⟨t++[a&&&b],by rw[ht,zT]⟩,?_,fun c hc=>?_,by simp;omega⟩;rw[List.nodup_append];exact⟨hf.nod,by simp,fun x hx y hy e=>by simp at hy;subst hy;subst e;exact dJ hx⟩;rcases yD.1 hc with hc |hc;exact hf.ok c hc;simp at hc;subst hc;obtain⟨g,hg,eg⟩:=oka.2.2;refine⟨Nat.lt_of_le_of_lt Nat.and_le_left oka.1,hz,g,hg,?_⟩;rw[Nat.and_assoc,Nat.and_comm b g,<-Nat.and_assoc,eg]
  have:=wj hn KD K5 m (k+1) (ws++[a&&&b]) (by omega) (by omega) Wj (by simp;omega) fun _=>uI [a&&&b] (.inr (by simp));rw[List.map_append]at this;exact this;have e1:decide ((ws.length:Int)<=256)=false:=by simp;omega
  simp only[e1,aO,zD,Sl,px];exact K5 ws hf hi fun h=>absurd h CJ;have e0:decide ((k:Int)<(i:Int))=false:=by simp;omega
  simp only[e0,zD,aO,Sl,px];refine K5 ws hf hi fun h i' k' a b h1 h2 h3 h4=>hc h i' k' a b h1 (by omega) h3 h4
theorem z9a{c0:List Nat}{n:Nat}(hn:5000<=n):∀(m i:Nat)(ws:List Nat),258-i<=m->i<=257->FI c0 ws->i<=ws.length->(ws.length<=256->LJ ws i 0)->
  ∃r,MS n m i (ws.map bt)=some r/\∃ws',r=ws'.map bt/\FI c0 ws'/\(ws'.length<=256->LJ ws' ws'.length 0)
 |0,i,ws,hm,_,_,_,_=>by omega
 |m+1,i,ws,hm,hi,hf,N7,hc=>by
  have hl:=hf.len;unfold MS;simp only[yA];by_cases aE:i<ws.length;by_cases CJ:ws.length<=256;have e1:decide ((ws.length:Int)<=256)=true:=by simp;omega
  simp only[hH aE,zC,e1,aO];have:=wj (c0:=c0) hn (i:=i) (rc:=MS n m) (Q:=fun r=>∃ws',r=ws'.map bt/\FI c0 ws'/\(ws'.length<=256->LJ ws' ws'.length 0)) (by omega) (fun ws' f1 f2 f3=>z9a hn m (i+1) ws' (by omega) (by omega) f1 (by omega) f3) n 0 ws (by omega) (by omega) hf aE hc;rw[zV]at this;exact this;have e1:decide ((ws.length:Int)<=256)=false:=by simp;omega
  simp only[hH aE,zC,e1,aO,zD,Sm];exact⟨_,rfl,ws,rfl,hf,fun h=>absurd h CJ⟩;simp only[iF aE,zD,aO,Sm];have:i=ws.length:=by omega
  exact⟨_,rfl,ws,rfl,hf,this ▸ hc⟩
def QZ(ws:List Nat):Prop:=∀a∈ws,∀b∈ws,a&&&b≠0->a&&&b∈ws
theorem LJ.all(h:LJ ws ws.length 0):QZ ws:=fun a ha b hb cZ=>by
 obtain⟨i,hi,rfl⟩:=List.mem_iff_getElem.1 ha;obtain⟨k,hk,rfl⟩:=List.mem_iff_getElem.1 hb;by_cases e:i=k;subst e;rw[Nat.and_self];exact ha;by_cases aE:k<i;exact(h i k _ _ aE (.inl hi) (List.getElem?_eq_getElem hi) (List.getElem?_eq_getElem hk)).resolve_left cZ;rw[Nat.and_comm]at cZ ⊢;exact(h k i _ _ (by omega) (.inl hk) (List.getElem?_eq_getElem hk) (List.getElem?_eq_getElem hi)).resolve_left cZ
theorem z2t{c0:List Nat}(hl:c0.length<=12)(gh:c0.Nodup)(hc:∀a∈c0,a<4096/\a≠0)(hn:5000<=n):∃ws,Rc n (c0.map bt)=some (ws.map bt)/\FI c0 ws/\(ws.length<=256->QZ ws):=by
 obtain⟨r,h1,ws,rfl,h2,h3⟩:=z9a (c0:=c0) hn n 0 c0 (by omega) (by omega) ⟨⟨[],by simp⟩,gh,fun a ha=>⟨(hc a ha).1,(hc a ha).2,a,ha,Nat.and_self a⟩,by omega⟩ (by omega) (fun _ i' k' a b h1 h2=>by omega);rw[zV]at h1;refine⟨ws,?_,h2,fun h=>(h3 h).all⟩;rw[Rc,fG (by rw[yA];omega)];exact h1
theorem Ag{l:List Str}(hl:l.length<=12)(hs:∀s∈l,s.length<=32)(hn:5000<=n):∃s,MM l n [] 0=some s:=by
 have:=jK (l:=l) (by omega) (F:=fun m z s=>MM l m s z) (fun i s=>s.length<=33*i) (Q:=fun _=>True)
  (fun m i x s hx aE bG hw hI ih=>by
   have Ay:=hs x (zX hx);simp only[MM,bG,zC,Ro,cK,hx,aO,hw];cases decide ((i:Int)>0)with
   |true=>simp only[zC];rw[fG (by show s.length+1<=_;omega),fG (by rw[zU];show s.length+1+x.length<=_;omega)];exact ih _ (by rw[zU,zU];show s.length+1+x.length<=_;omega)|false=>simp only[zD];rw[fG (by omega)];exact ih _ (by rw[zU];omega))
  (fun m s bG hI=>by simp only[MM,bG,zD,yd];exact⟨s,rfl,trivial⟩) n 0 [] (by omega) (by omega) (by simp)
 obtain⟨s,h1,_⟩:=this;exact⟨s,h1⟩
theorem qyo(h:AF d){all:List Str}(eS:all.length<=12){c0:List Nat}(KH:c0.length=all.length)(hc:∀a∈c0,a<4096){w:Nat}(hw:w<4096)(hn:5000<=n):
  ∃s,Pz n d all (c0.map bt) (bt w)=some s/\∀(i:Nat)(t:Str),c0.Nodup->c0[i]? = some w->all[i]? = some t->s=t:=by
 have:=jK (l:=all) (by omega) (F:=fun m z s=>P8 d all (c0.map bt) (bt w) n m z s) (fun i (s:List Str)=>s.length<=i/\∀j,j<i->c0[j]? ≠some w) (Q:=fun s=>∀(i:Nat)(t:Str),c0.Nodup->c0[i]? = some w->all[i]? = some t->s=t)
  (fun m i x s hx aE bG B3 hI ih=>by
   obtain⟨a,ha,xD⟩:=eM (l:=c0) (show i<c0.length by omega);have ga:(c0.map bt)[i]? = some (bt a):=by rw[List.getElem?_map,ha];rfl
   simp only[P8,bG,zC,cK,ga,hx,aO,xv (hc a xD) hw (show 5<=n by omega),z9g (w:=w) (n:=n) hw (show i<64 by omega),Rn,B3];by_cases e:a=w;subst e;simp only[yC,zC];refine⟨x,rfl,fun k t N4 hk ht=>?_⟩;obtain⟨p1,p2⟩:=zG.1 ha;obtain⟨q1,q2⟩:=zG.1 hk;have:i=k:=(List.getElem_inj N4).1 (p2.trans q2.symm);subst this;rw[hx]at ht;exact Option.some.inj ht;have eE:∀j,j<i+1->c0[j]? ≠some w:=fun j hj=>by by_cases e2:j=i;subst e2;rw[ha];exact fun h=>e (Option.some.inj h);exact hI.2 j (by omega)
   simp only[e,yB,zD];cases w.testBit i with
   |true=>simp only[zC];rw[fG (by have:=hI.1;omega)];exact ih (s++[x]) ⟨by have:=hI.1;simp;omega,eE⟩|false=>exact ih s ⟨by have:=hI.1;omega,eE⟩)
  (fun m s bG hI=>by obtain⟨out,m1,m2,m3⟩:=qrb h (l:=s) (by have:=hI.1;omega) hn;obtain⟨r,j1⟩:=Ag (l:=out) (by have:=hI.1;omega) (fun t ht=>by obtain⟨x,hx,e⟩:=(m3 t ht).2;have:=(h.nam.len x hx).2;rw[e]at this;exact this) hn;simp only[P8,bG,zD,ye,m1,aO];refine⟨r,j1,fun i t _ hi _=>absurd hi (hI.2 i ?_)⟩;have:=(zG.1 hi).1;omega) n 0 [] (by omega) (by omega) ⟨by simp,fun j hj=>by omega⟩
 rw[zV]at this;exact this
def cw:List Int->Nat
 |[z]=>z.toNat|_=>0
theorem IW(w:Nat):cw (bt w)=w:=by
 by_cases h:w=0;subst h;rfl;rw[sR h];simp[cw]
def cnt(x:dO):Nat:=(bl (cw x.Code)).length
theorem z1w{x y:dO}{a b:Nat}(hx:x.Code=bt a)(hy:y.Code=bt b)(ha:a<4096)(hb:b<4096)(hn:5000<=n):∃r,Rd n x y=some r/\(r=true->cnt y<=cnt x)/\(r=false->cnt x<=cnt y):=by
 have e1:cnt x=(bl a).length:=by rw[cnt,hx,IW]
 have e2:cnt y=(bl b).length:=by rw[cnt,hy,IW]
 rw[e1,e2];simp only[Rd,hx,hy,qxx ha (show 100<=n by omega),qxx hb (show 100<=n by omega),aO];by_cases h1:((bl a).length:Int)>((bl b).length:Int);simp only[h1,yC,zC,aO];exact⟨true,rfl,fun _=>by omega,fun h=>by cases h⟩;simp only[h1,yB,zD];by_cases h2:((bl a).length:Int)=((bl b).length:Int);have:(((bl a).length:Int)==((bl b).length:Int))=true:=by simpa using h2
 simp only[this,zC,aO];exact⟨_,rfl,fun _=>by omega,fun _=>by omega⟩;have:(((bl a).length:Int)==((bl b).length:Int))=false:=by simpa using h2
 simp only[this,zD,aO];exact⟨false,rfl,fun h=>(by cases h),fun _=>by omega⟩
structure CI(nm:Nat->Option Str)(ws:List Nat)(l:List dO):Prop where
 perm:(l.map dO.Code).Perm (ws.map bt)
 nam:∀w∈ws,∃x∈l,x.Code=bt w/\nm w=some x.Name
 srt:l.Pairwise fun a b=>cnt b<=cnt a
variable{nm:Nat->Option Str}
variable{l:List dO}
theorem CI.len(h:CI nm ws l):l.length=ws.length:=by
 have:=h.perm.length_eq
 rwa [yA,yA]at this
theorem CI.cod(h:CI nm ws l):∀x∈l,∃w∈ws,x.Code=bt w:=fun x hx=>by
 have:=h.perm.mem_iff.1 (List.mem_map_of_mem (f:=dO.Code) hx);obtain⟨w,hw,e⟩:=List.mem_map.1 this;exact⟨w,hw,e.symm⟩
theorem Uf(h:CI nm ws l)(hl:l.length<=300)(hws:∀w∈ws,w<4096){w:Nat}(hw:w<4096){s:Str}(hs:nm w=some s)(hn:5000<=n){dS:Int}{rc:Int->List dO->Option (List dO×Int)}{Q:List dO×Int->Prop}
  (K5:∀l',CI nm (ws++[w]) l'->∃r,rc (IntKind.i64.wrap (dS+1)) l'=some r/\Q r):
  ∀(m z:Nat),z<m->z<=l.length->(∀y∈l.drop z,cnt y<=cnt ⟨s,bt w⟩)->∃r,In n dS l rc s (bt w) m z=some r/\Q r:=by
 have fin:∀z,z<=l.length->(∀y∈l.drop z,cnt y<=cnt ⟨s,bt w⟩)->(∀y∈l.take z,cnt ⟨s,bt w⟩<=cnt y)->∃r,Sd dS l rc s (bt w) z=some r/\Q r:=by
  intro z hz G1 UK;have t1:((l.drop 0).take ((z:Int)).toNat)=l.take z:=by rw[List.drop_zero,zZ]
  have t2:((l.drop (0+((z:Int)).toNat)).take (l.length-((z:Int)).toNat))=l.drop z:=by rw[zZ,Nat.zero_add];exact zW (by simp)
  have tl:(l.take z).length=z:=by simp;omega
  have dl:(l.drop z).length=l.length-z:=by simp
  simp only[Sd,t1,t2];rw[fG (by omega),fG (by rw[zZ];omega),fG (by rw[tl];omega),fG (by rw[tl];omega),fG (by omega),fG (by rw[zZ];omega),fG (by rw[zU,tl,dl];simp;omega)];refine K5 _ ⟨?_,fun v hv=>?_,?_⟩;have hp:((l.take z++[dO.mk s (bt w)])++l.drop z).Perm (l++[dO.mk s (bt w)]):=by rw[zT];refine(List.perm_append_comm_assoc _ _ _).trans ?_;rw[List.take_append_drop];exact List.perm_append_comm
  refine(hp.map dO.Code).trans ?_;rw[List.map_append,List.map_append];exact h.perm.append_right _;rcases yD.1 hv with hv |hv;obtain⟨x,hx,e1,e2⟩:=h.nam v hv;refine⟨x,?_,e1,e2⟩;rw[<-List.take_append_drop z l]at hx;rcases yD.1 hx with hx |hx;exact List.mem_append_left _ (List.mem_append_left _ hx);exact List.mem_append_right _ hx;simp at hv;subst hv;exact⟨⟨s,bt v⟩,by simp,rfl,hs⟩;have h1:=h.srt;rw[<-List.take_append_drop z l,List.pairwise_append]at h1;rw[List.pairwise_append,List.pairwise_append];refine⟨⟨h1.1,by simp,fun a ha b hb=>by simp at hb;subst hb;exact UK a ha⟩,h1.2.1,fun a ha b hb=>?_⟩;rcases yD.1 ha with ha |ha;exact h1.2.2 a ha b hb;simp at ha;subst ha;exact G1 b hb
 intro m;induction m with
 |zero=>intro z hm;omega|succ m ih=>
  intro z hm hz G1;unfold In;by_cases h0:z=0;subst h0;simp only[zV,Int.lt_irrefl,yB,zD,aO,show((0:Int)>0)=False by simp];have:=fin 0 (by omega) G1 (by simp)
  rwa [zV]at this
  have e0:decide ((z:Int)>0)=true:=by simp;omega
  have e1:IntKind.i64.wrap ((z:Int)-1)=((z-1:Nat):Int):=EA (by omega) (by omega);obtain⟨y,hy,C1⟩:=eM (l:=l) (show z-1<l.length by omega);obtain⟨v,hv,ev⟩:=h.cod y C1;obtain⟨r,r1,r2,r3⟩:=z1w (x:=⟨s,bt w⟩) (y:=y) rfl ev hw (hws v hv) hn;simp only[e0,zC,e1,cK,hy,aO,r1];cases r with
  |true=>
   simp only[zC];refine ih (z-1) (by omega) (by omega) fun x hx=>?_;rw[aW hy,show z-1+1=z by omega]at hx;rcases zI.1 hx with rfl |hx
   exact r2 rfl;exact G1 x hx
  |false=>
   simp only[zD];refine fin z hz G1 fun x hx=>?_;have h1:=h.srt;rw[<-List.take_append_drop (z-1) l,List.pairwise_append]at h1;have:l.take z=l.take (z-1)++[y]:=by rw[<-j9 hy,show z-1+1=z by omega]
   rw[this]at hx;rcases yD.1 hx with hx |hx;exact Nat.le_trans (r3 rfl) (h1.2.2 x hx y (by rw[aW hy];simp));simp at hx;subst hx;exact r3 rfl
theorem XE(h:AF d):∃s0,lB d s0/\∀s,lB d s->oD d s s0:=by
 obtain⟨l,hl,b7⟩:=h.ord;have cP:∀s,lB d s->s∈l:=fun s ⟨x,hx,e⟩=>by
  apply Classical.byContradiction;intro hn;have h3:=Pi (a:=s::l) (b:=d.map bL.Name) (List.nodup_cons.2 ⟨hn,hl.nodup.1⟩) fun t ht=>by rcases zI.1 ht with rfl |ht;rw[<-e];exact List.mem_map_of_mem hx;obtain⟨y,hy,rfl⟩:=hl.nodup.2 t ht;exact List.mem_map_of_mem hy
  simp at h3;omega
 obtain⟨x0,wQ⟩:∃x0,d.filter (fun x=>decide (x.Supers=[]))=[x0]:=List.length_eq_one_iff.1 h.one;have u?:x0∈d:=(List.mem_filter.1 (show x0∈d.filter (fun x=>decide (x.Supers=[])) by rw[wQ];simp)).1;refine⟨x0.Name,⟨x0,u?,rfl⟩,fun s hs=>?_⟩;have key:∀{l:List Str},Ord d l->∀s∈l,oD d s x0.Name:=by
  intro l hl;induction hl with
  |nil=>intro s hs;cases hs| @snoc l x g1 g2 g3 g4 ih=>
   intro s hs;rcases yD.1 hs with hs |hs;exact ih s hs;simp at hs;subst hs;cases hsup:x.Supers with
   |nil=>have:x∈d.filter (fun x=>decide (x.Supers=[])):=List.mem_filter.2 ⟨g2,by simp[hsup]⟩;rw[wQ]at this;simp at this;rw[this];exact .refl|cons u us=>
    have hu:u∈x.Supers:=by rw[hsup];simp
    exact oD.trans (.step .refl g2 rfl hu) (ih u (g4 u hu))
 exact key hl s (cP s hs)
structure HU(d:List bL)(l:List dO):Prop where
 ws:∃(nm:Nat->Option Str)(c0 ws:List Nat),FI c0 ws/\QZ ws/\CI nm ws l/\ws.length<=256/\0<ws.length
 dcl:∀s,lB d s->∃x∈l,x.Name=s
 top:∃w0,(∃x∈l,x.Code=bt w0)/\∀x∈l,w0&&&cw x.Code=cw x.Code
theorem HU.len{d:List bL}{l:List dO}(h:HU d l):l.length<=256/\0<l.length:=by
 obtain⟨nm,c0,ws,h1,h2,h3,h4,h5⟩:=h.ws;have:=h3.len;omega
theorem HU.cod{d:List bL}{l:List dO}(h:HU d l):∀x∈l,∃w,x.Code=bt w/\w<4096/\w≠0:=fun x hx=>by
 obtain⟨nm,c0,ws,h1,h2,h3,h4,h5⟩:=h.ws;obtain⟨w,hw,e⟩:=h3.cod x hx;exact⟨w,e,(h1.ok w hw).1,(h1.ok w hw).2.1⟩
theorem z70(hd:d.length<=12)(hn:5000<=n):∃l e,P1 n d=some (l,e)/\(e=0->AF d/\HU d l):=by
 obtain⟨e,c1,c2⟩:=z2f hd hn;simp only[P1,c1,aO];by_cases he:e=0;subst he;have h:=c2 rfl;obtain⟨all,n1,n2⟩:=names_ok (d:=d) (by omega) hn;have eS:all.length<=12:=by have:=n2.len;simp at this;omega
 have cP:∀s,s∈all↔lB d s:=fun s=>by rw[n2.mem];simp[lB,List.mem_map]
 simp only[bne_self_eq_false,zD,n1,aO];have:=jK (l:=all) (by omega) (F:=fun m z (s:List Nat)=>Z9 d n all m z (s.map bt)) (fun i s=>s.length=i/\(∀w∈s,w<4096)/\∀(j w:Nat)(t:Str),s[j]? = some w->all[j]? = some t->∀i:Nat,w.testBit i=true↔∃u,all[i]? = some u/\oD d u t) (Q:=fun r=>r.2=0->AF d/\HU d r.1)
  (fun m i x s hx aE bG hw hI ih=>by
   obtain⟨i1,i2,i3⟩:=hI;obtain⟨w,w1,w2,w3⟩:=zap h eS ((cP x).1 (zX hx)) (fun y hy=>(cP y).1 hy) hn;simp only[Z9,bG,zC,cK,hx,aO,w1,hw,yA];rw[fG (by omega)];have:=ih (s++[w]) ⟨by simp;omega,fun v hv=>by
    rcases yD.1 hv with hv |hv;exact i2 v hv;simp at hv;subst hv;exact w2,fun j v t hj ht=>by
    by_cases e:j<s.length;rw[List.getElem?_append_left e]at hj;exact i3 j v t hj ht;have:j=i:=by have:=(zG.1 hj).1;simp at this;omega
    subst this;rw[List.getElem?_append_right (by omega),i1,Nat.sub_self]at hj;simp at hj;subst hj;rw[hx]at ht;cases ht;exact w3⟩
   rw[List.map_append]at this;exact this)
  (fun m c0 bG hI=>by
   obtain⟨i1,i2,i3⟩:=hI;have tE:∀(j w:Nat),c0[j]? = some w->w.testBit j=true:=fun j w hj=>by obtain⟨t,ht,_⟩:=eM (l:=all) (show j<all.length by have:=(zG.1 hj).1;omega);exact(i3 j w t hj ht j).2 ⟨t,ht,.refl⟩
   have Wm:c0.Nodup:=by rw[List.Nodup,List.pairwise_iff_getElem];intro a b ha hb xE e;obtain⟨s,hs,b?⟩:=eM (l:=all) (show a<all.length by omega);obtain⟨t,ht,htm⟩:=eM (l:=all) (show b<all.length by omega);have ga:=List.getElem?_eq_getElem ha;have gb:=List.getElem?_eq_getElem hb;have h1:=tE a _ ga;have h2:=tE b _ gb;rw[e]at h1;rw[<-e]at h2;obtain⟨u,hu,hu2⟩:=(i3 b _ t gb ht a).1 h1;obtain⟨v,hv,Q_⟩:=(i3 a _ s ga hs b).1 h2;rw[hs]at hu;cases hu;rw[ht]at hv;cases hv;have:=zby h ((cP s).1 b?) ((cP t).1 htm) hu2 Q_;subst this;obtain⟨p1,p2⟩:=zG.1 hs;obtain⟨q1,q2⟩:=zG.1 ht;have:=(List.getElem_inj n2.asc.nodup).1 (p2.trans q2.symm);omega
   have m?:∀a∈c0,a<4096/\a≠0:=fun a ha=>⟨i2 a ha,fun e=>by obtain⟨j,hj,e2⟩:=List.mem_iff_getElem.1 ha;have:=tE j a (by rw[List.getElem?_eq_getElem hj,e2]);rw[e]at this;simp at this⟩;obtain⟨ws,f1,f2,f3⟩:=z2t (c0:=c0) (by omega) Wm m? hn;simp only[Z9,bG,zD,li,f1,aO,yA];by_cases CJ:(ws.length:Int)>256;simp only[CJ,yC,zC];exact⟨_,rfl,fun h=>by cases h⟩;simp only[CJ,yB,zD];have b7:ws.length<=256:=by omega
   have:=jK (l:=ws) (by omega) (F:=fun m z (s:List dO)=>PF d n all (c0.map bt) (ws.map bt) m z s) (fun i s=>CI (fun w=>Pz n d all (c0.map bt) (bt w)) (ws.take i) s) (Q:=fun r=>r.2=0->AF d/\HU d r.1)
    (fun m' i w s hx aE dK xY jO kY=>by
     have FV:=zX hx;have okw:=f2.ok w FV;obtain⟨t,t1,t2⟩:=qyo h eS (c0:=c0) i1 i2 okw.1 hn;have Vb:(ws.map bt)[i]? = some (bt w):=by rw[List.getElem?_map,hx];rfl
     have JZ:=jO.len;rw[List.length_take]at JZ;simp only[PF,yA,dK,zC,cK,Vb,aO,t1];refine Uf (w:=w) (s:=t) jO (by omega) (fun v hv=>(f2.ok v (List.mem_of_mem_take hv)).1) okw.1 t1 hn (fun l' G4=>?_) n s.length (by omega) (by omega) (by simp);rw[xY];rw[<-j9 hx]at G4;exact kY l' G4)
    (fun m' s dK jO=>by
     rw[zW (zF _)]at jO;simp only[PF,yA,dK,zD,lh];have fC:0<ws.length:=by
      have G0:0<d.length:=by have:=h.one;rcases d with _|⟨x,d⟩;simp at this;simp
      obtain⟨x,hx,gM⟩:=eM (l:=d) G0;have:=(cP x.Name).2 ⟨x,gM,rfl⟩;have:=List.length_pos_of_mem this;obtain⟨t,ht⟩:=f2.pre;rw[ht,zU];omega
     have C4:∃w0,(∃x∈s,x.Code=bt w0)/\∀x∈s,w0&&&cw x.Code=cw x.Code:=by
      obtain⟨s0,q1,q2⟩:=XE h;obtain⟨j,hj,e⟩:=List.mem_iff_getElem.1 ((cP s0).2 q1);have DN:j<c0.length:=by omega
      obtain⟨p,hp⟩:=f2.pre;have FV:c0[j]∈ws:=by rw[hp];exact List.mem_append_left _ (List.getElem_mem DN)
      obtain⟨x,hx,hxc,_⟩:=jO.nam _ FV;have full:∀i,i<all.length->(c0[j]).testBit i=true:=fun i hi=>by obtain⟨u,hu,pz⟩:=eM hi;exact(i3 j _ s0 (List.getElem?_eq_getElem DN) (by rw[List.getElem?_eq_getElem hj,e]) i).2 ⟨u,hu,q2 u ((cP u).1 pz)⟩
      refine⟨c0[j],⟨x,hx,hxc⟩,fun y hy=>?_⟩;obtain⟨w,hw,ew⟩:=jO.cod y hy;rw[ew,IW];obtain⟨_,_,b,hb,xE⟩:=f2.ok w hw;refine Nat.eq_of_testBit_eq fun i=>?_;rw[Nat.testBit_and];rcases px:w.testBit i with _|_
      simp;have AA:b.testBit i=true:=by have:=congrArg (fun z=>z.testBit i) xE;simp only[Nat.testBit_and,px,Bool.true_and]at this;exact this
      obtain⟨k,hk,e2⟩:=List.mem_iff_getElem.1 hb;obtain⟨t,ht,_⟩:=eM (l:=all) (show k<all.length by omega);obtain⟨u,hu,_⟩:=(i3 k b t (by rw[List.getElem?_eq_getElem hk,e2]) ht i).1 AA;rw[full i (zG.1 hu).1];rfl
     refine⟨_,rfl,fun _=>⟨h,⟨_,c0,ws,f2,f3 b7,jO,b7,fC⟩,fun t ht=>?_,C4⟩⟩;obtain⟨j,hj,e⟩:=List.mem_iff_getElem.1 ((cP t).2 ht);have DN:j<c0.length:=by omega
     obtain⟨p,hp⟩:=f2.pre;have FV:c0[j]∈ws:=by rw[hp];exact List.mem_append_left _ (List.getElem_mem DN)
     obtain⟨x,hx,_,e2⟩:=jO.nam _ FV;refine⟨x,hx,?_⟩;obtain⟨s2,t1,t2⟩:=qyo h eS (c0:=c0) i1 i2 (f2.ok _ FV).1 hn;rw[t1]at e2;rw[<-Option.some.inj e2];exact t2 j t Wm (List.getElem?_eq_getElem DN) (by rw[List.getElem?_eq_getElem hj,e])) n 0 [] (by omega) (by omega) ⟨by simp,by simp,List.Pairwise.nil⟩
   rw[zV]at this;exact this) n 0 [] (by omega) (by omega) ⟨rfl,by simp,fun j w t hj=>by simp at hj⟩
 rw[zV]at this;obtain⟨r,h1,h2⟩:=this;exact⟨r.1,r.2,h1,h2⟩;have:(e != 0)=true:=by simpa using he
 simp only[this,zC];exact⟨[],e,rfl,fun h=>absurd h he⟩
variable{n:Nat}
theorem qzo{x:bL}(hx:x.Feats.length<=256)(s:Str)(hn:5000<=n):∃r,Ql n x s=some r/\(r.2=true->∃f∈x.Feats,f.Feat=s/\f.Value=r.1):=by
 have:=jK (l:=x.Feats) (by omega) (F:=fun m z (_:Unit)=>Z5 x s m z) (fun _ _=>True) (Q:=fun r=>r.2=true->∃f∈x.Feats,f.Feat=s/\f.Value=r.1)
  (fun m i f _ hf aE bG hw _ ih=>by simp only[Z5,bG,zC,cK,hf,aO,LA,hw];by_cases e:f.Feat=s;simp only[e,yC,zC];exact⟨_,rfl,fun _=>⟨f,zX hf,e,rfl⟩⟩;simp only[e,yB,zD];exact ih () trivial)
  (fun m _ bG _=>by simp only[Z5,bG,zD,yw];exact⟨_,rfl,fun h=>by cases h⟩) n 0 () (by omega) (by omega) trivial
 rw[zV]at this;exact this
variable{l:List dO}
theorem iq(hl:l.length<=256)(s:Str)(hn:5000<=n):∃r,Hs n l s=some r/\((∃x∈l,x.Name=s)->∃j:Nat,r=(j:Int)/\j<l.length):=by
 have:=jK (l:=l) (by omega) (F:=fun m z (_:Unit)=>ZH l s m z) (fun i _=>∀x∈l.take i,x.Name≠s) (Q:=fun r=>(∃x∈l,x.Name=s)->∃j:Nat,r=(j:Int)/\j<l.length)
  (fun m i x _ hx aE bG hw hI ih=>by
   simp only[ZH,bG,zC,cK,hx,aO,LA,hw];by_cases e:x.Name=s;simp only[e,yC,zC];exact⟨_,rfl,fun _=>⟨i,rfl,aE⟩⟩;simp only[e,yB,zD];refine ih () fun y hy=>?_;rw[j9 hx]at hy;rcases yD.1 hy with hy |hy
   exact hI y hy;simp at hy;subst hy;exact e)
  (fun m _ bG hI=>by rw[zW (zF _)]at hI;simp only[ZH,bG,zD,ub];exact⟨_,rfl,fun⟨x,hx,e⟩=>absurd e (hI x hx)⟩) n 0 () (by omega) (by omega) (by simp)
 rw[zV]at this;exact this
variable{d:List bL}
theorem z79(hd:d.length<=12)(hf:∀x∈d,x.Feats.length<=256)(hn:5000<=n):∃f,YP n d=some f/\fO f/\f.length<=3072/\∀s∈f,∃x∈d,∃y∈x.Feats,y.Feat=s:=by
 have:=jK (l:=d) (by omega) (F:=fun m z s=>MO d n m s z) (fun i s=>fO s/\s.length<=256*i/\∀t∈s,∃x∈d,∃y∈x.Feats,y.Feat=t) (Q:=fun f=>fO f/\f.length<=3072/\∀s∈f,∃x∈d,∃y∈x.Feats,y.Feat=s)
  (fun m i x s hx aE bG hw hI ih=>by
   obtain⟨i1,i2,i3⟩:=hI;have gM:=zX hx;have hxf:=hf x gM;simp only[MO,bG,zC];have:=jK (l:=x.Feats) (by omega) (F:=fun m' z s'=>Z6 d n i (MO d n m) m' s' z) (fun k s'=>fO s'/\s'.length<=s.length+k/\∀t∈s',∃x∈d,∃y∈x.Feats,y.Feat=t) (Q:=fun f=>fO f/\f.length<=3072/\∀s∈f,∃x∈d,∃y∈x.Feats,y.Feat=s)
    (fun m' k y s' hy tG dK xY jO kY=>by obtain⟨j1,j2,j3⟩:=jO;obtain⟨o,h1,h2,h3,h4⟩:=Fp (l:=s') (by omega) j1 y.Feat (show s'.length<n by omega);simp only[Z6,cK,hx,aO,dK,zC,hy,h1,xY];refine kY o ⟨h4,by omega,fun t ht=>?_⟩;rcases(h2 t).1 ht with rfl |ht;exact⟨x,gM,y,zX hy,rfl⟩;exact j3 t ht)
    (fun m' s' dK jO=>by obtain⟨j1,j2,j3⟩:=jO;simp only[Z6,cK,hx,aO,dK,zD,yy,hw];exact ih s' ⟨j1,by omega,j3⟩) n 0 s (by omega) (by omega) ⟨i1,by omega,i3⟩
   rw[zV]at this;exact this)
  (fun m s bG hI=>by simp only[MO,bG,zD,yz];exact⟨s,rfl,hI.1,by have:=hI.2.1;omega,hI.2.2⟩) n 0 [] (by omega) (by omega) ⟨List.Pairwise.nil,by simp,by simp⟩
 rw[zV]at this;exact this
theorem z09(s:Str)(hn:40<=n):∃r,YZ n s=some r:=by
 obtain⟨r,h1,_⟩:=qyp s true hn;exact⟨r,by simp[YZ,h1,aO]⟩
def GH(d:List bL)(n:Nat)(x:bL):Prop:=∀f∈x.Feats,YZ n f.Feat=some true/\lB d f.Value
theorem qos(h:AF d)(hn:5000<=n):∃e,Td n d=some e/\(e=0->∀x∈d,GH d n x):=by
 have hd:=h.len;obtain⟨all,n1,n2⟩:=names_ok (d:=d) (by omega) hn;have eS:all.length<=12:=by have:=n2.len;simp at this;omega
 have cP:∀s,s∈all↔lB d s:=fun s=>by rw[n2.mem];simp[lB,List.mem_map]
 have:=jK (l:=d) (by omega) (F:=fun m z (_:Unit)=>FE d n all m z) (fun i _=>∀x∈d.take i,GH d n x) (Q:=fun e=>e=0->∀x∈d,GH d n x)
  (fun m i x _ hx aE bG hw hI ih=>by
   have hxf:=(h.siz x (zX hx)).2;simp only[FE,bG,zC,cK,hx,aO];have:=jK (l:=x.Feats) (by omega) (F:=fun m' z (_:Unit)=>MX n all i (FE d n all m) x m' z) (fun k _=>∀f∈x.Feats.take k,YZ n f.Feat=some true/\lB d f.Value) (Q:=fun e=>e=0->∀x∈d,GH d n x)
    (fun m' k f _ hf tG dK xY jO kY=>by
     obtain⟨r,r1⟩:=z09 f.Feat (n:=n) (by omega);simp only[MX,dK,zC,cK,hf,aO,r1];rcases r with _|_;exact⟨1,rfl,fun h=>by cases h⟩;simp only[Bool.not_true,zD];have hk:((k:Int)<=(x.Feats.length:Int)):=by omega
     have key:∀(m3 j:Nat),k-j<m3->j<=k->∃e,Jp n all x k (MX n all i (FE d n all m) x m') m3 j=some e/\(e=0->∀x∈d,GH d n x):=by
      intro m3;induction m3 with
      |zero=>intro j hm;omega|succ m3 pn=>
       intro j hm hj;unfold Jp;by_cases nK:j<k;obtain⟨g,hg,_⟩:=eM (l:=x.Feats) (show j<x.Feats.length by omega);have e0:decide ((j:Int)<(k:Int))=true:=by simp;omega
       have e1:IntKind.i64.wrap ((j:Int)+1)=((j+1:Nat):Int):=EA (by omega) (by omega);simp only[e0,zC,cK,hg,hf,aO,e1];rcases lG g.Feat f.Feat with _|_;exact pn (j+1) (by omega) (by omega);exact⟨4,rfl,fun h=>by cases h⟩;have e0:decide ((j:Int)<(k:Int))=false:=by simp;omega
       simp only[e0,zD,su,cK,hf,aO,OT (l:=all) (by omega) f.Value (n:=n) (by omega),xY];by_cases C8:f.Value∈all;simp only[C8,yC,Bool.not_true,zD];refine kY () fun y hy=>?_;rw[j9 hf]at hy;rcases yD.1 hy with hy |hy
       exact jO y hy;simp at hy;subst hy;exact⟨r1,(cP _).1 C8⟩;simp only[C8,yB,Bool.not_false,zC];exact⟨5,rfl,fun h=>by cases h⟩
     have:=key n 0 (by omega) (by omega);rw[zV]at this;exact this)
    (fun m' _ dK jO=>by
     rw[zW (zF _)]at jO;simp only[MX,dK,zD,sw,hw];refine ih () fun y hy=>?_;rw[j9 hx]at hy;rcases yD.1 hy with hy |hy
     exact hI y hy;simp at hy;subst hy;exact jO) n 0 () (by omega) (by omega) (by simp)
   rw[zV]at this;exact this)
  (fun m _ bG hI=>by rw[zW (zF _)]at hI;simp only[FE,bG,zD,sx];exact⟨0,rfl,fun _=>hI⟩) n 0 () (by omega) (by omega) (by simp)
 rw[zV]at this;simp only[Td,n1,aO];exact this
theorem qya(h:AF d)(s:Str)(hn:5000<=n):∃r,Qm n d s=some r:=by
 have hd:=h.len;have:=jK (l:=d) (by omega) (F:=fun m z t=>PE d s n m t z) (fun i t=>fO t/\t.length<=i) (Q:=fun _=>True)
  (fun m i x t hx aE bG hw hI ih=>by
   obtain⟨i1,i2⟩:=hI;obtain⟨r,r1,_⟩:=qzo (h.siz x (zX hx)).2 s hn;simp only[PE,bG,zC,cK,hx,aO,r1,Sb,hw];cases r.2 with
   |true=>obtain⟨o,h1,h2,h3,h4⟩:=Fp (l:=t) (by omega) i1 x.Name (show t.length<n by omega);simp only[zC,h1,aO];exact ih o ⟨h4,by omega⟩
   |false=>exact ih t ⟨i1,by omega⟩)
  (fun m t bG hI=>by
   obtain⟨out,m1,m2,m3⟩:=qrb h (l:=t) (by have:=hI.2;omega) hn;simp only[PE,bG,zD,yx,m1,aO];by_cases e:(out.length:Int)=1;obtain⟨x,hx,_⟩:=eM (l:=out) (show 0<out.length by omega);have h0:aB out 0=some x:=by rw[<-hx];exact cK 0
   simp only[e,bne_self_eq_false,zD,h0,aO];exact⟨_,rfl,trivial⟩;have:((out.length:Int) != 1)=true:=by simpa using e
   simp only[this,zC];exact⟨_,rfl,trivial⟩) n 0 [] (by omega) (by omega) ⟨List.Pairwise.nil,by simp⟩
 rw[zV]at this;obtain⟨r,h1,_⟩:=this;exact⟨r,h1⟩
theorem kc(h:HU d l){i j:Nat}(hi:i<l.length)(hj:j<l.length)(hn:5000<=n):∃b,T3 n l i j=some b:=by
 obtain⟨x,hx,gM⟩:=eM hi;obtain⟨y,hy,C1⟩:=eM hj;obtain⟨a,a1,a2,_⟩:=h.cod x gM;obtain⟨b,b1,b2,_⟩:=h.cod y C1;simp only[T3,cK,hx,hy,aO,a1,b1,ij b2 a2 (show 5<=n by omega)];exact⟨_,rfl⟩
theorem qnf(h:AF d)(hl:HU d l)(hv:∀x∈d,∀f∈x.Feats,lB d f.Value){t:Nat}(ht:t<l.length)(s:Str)(hn:5000<=n):∃w b,Iv n d l t s=some (bt w,b)/\w<4096:=by
 have hd:=h.len;have G2:=hl.len;obtain⟨x0,wQ,J_⟩:=eM (l:=l) G2.2;obtain⟨w0,a1,a2,_⟩:=hl.cod x0 J_;have:=jK (l:=d) (by omega) (F:=fun m z (s':Bool×Nat)=>TD d l t s n m s'.1 (bt s'.2) z) (fun _ s'=>s'.2<4096) (Q:=fun r=>∃w b,r=(bt w,b)/\w<4096)
  (fun m i x s' hx aE bG hw hI ih=>by have gM:=zX hx;obtain⟨r,r1,r2⟩:=qzo (h.siz x gM).2 s hn;simp only[TD,bG,zC,cK,hx,aO,r1,hw];rcases hr:r.2 with _|_;simp only[Bool.not_false,zC,aO];exact ih s' hI;obtain⟨p,p1,p2⟩:=iq (l:=l) (by omega) x.Name hn;obtain⟨j,rfl,hj⟩:=p2 (hl.dcl _ ⟨x,gM,rfl⟩);obtain⟨b,b1⟩:=kc hl hj ht hn;simp only[Bool.not_true,zD,p1,aO,b1];rcases b with _|_;simp only[Bool.not_false,zC];exact ih s' hI;obtain⟨f,hf,_,e2⟩:=r2 hr;obtain⟨q,q1,q2⟩:=iq (l:=l) (by omega) r.1 hn;obtain⟨k,rfl,hk⟩:=q2 (hl.dcl _ (e2 ▸ hv x gM f hf));obtain⟨y,hy,C1⟩:=eM hk;obtain⟨v,v1,v2,_⟩:=hl.cod y C1;simp only[Bool.not_true,zD,q1,aO,cK,hy,v1,z8w hI v2 (show 5<=n by omega)];exact ih (true,s'.2&&&v) (Nat.lt_of_le_of_lt Nat.and_le_left hI))
  (fun m s' bG hI=>by simp only[TD,bG,zD,se];exact⟨_,rfl,s'.2,s'.1,rfl,hI⟩) n 0 (false,w0) (by omega) (by omega) a2
 rw[zV]at this;obtain⟨r,h1,w,b,rfl,h2⟩:=this;have h0:aB l 0=some x0:=by rw[<-wQ];exact cK 0
 exact⟨w,b,by simp only[Iv,h0,aO,a1];exact h1,h2⟩
structure LQ(d:List bL)(n:Nat)(l:List dO)(f:List Str):Prop where
 dok:AF d
 cod:P1 n d=some (l,0)
 cok:HU d l
 fea:YP n d=some f
 asc:fO f
 len:f.length<=64
 val:∀x∈d,GH d n x
 mem:∀s∈f,∃x∈d,∃y∈x.Feats,y.Feat=s
theorem qu8(hd:d.length<=12)(hn:5000<=n):∃e,SY n d=some e/\(e=0->∃l f,LQ d n l f):=by
 obtain⟨l,e,c1,c2⟩:=z70 hd hn;simp only[SY,c1,aO];by_cases he:e=0;subst he;obtain⟨h,hl⟩:=c2 rfl;have G2:=hl.len;obtain⟨f,f1,f2,f3,f4⟩:=z79 hd (fun x hx=>(h.siz x hx).2) hn;simp only[bne_self_eq_false,zD,f1,aO];by_cases tN:(f.length:Int)>64;simp only[tN,yC,zC];exact⟨7,rfl,fun h=>by cases h⟩;obtain⟨e2,d1,d2⟩:=qos h hn;simp only[tN,yB,zD,d1,aO];by_cases S?:e2=0;subst S?;have hv:=d2 rfl;have HJ:LQ d n l f:=⟨h,c1,hl,f1,f2,by omega,hv,f4⟩;simp only[bne_self_eq_false,zD];have:=jK (l:=f) (by omega) (F:=fun m z (_:Unit)=>Z8 d n (l,0) f m z) (fun _ _=>True) (Q:=fun e=>e=0->∃l f,LQ d n l f)
  (fun m i s _ hs aE bG hw _ ih=>by obtain⟨r,r1⟩:=qya h s hn;simp only[Z8,bG,zC,cK,hs,aO,r1,hw];rcases r.2 with _|_;exact⟨10,rfl,fun h=>by cases h⟩;exact ih () trivial)
  (fun m _ bG _=>by
   simp only[Z8,bG,zD,lg];have:=jK (l:=l) (by omega) (F:=fun m z (_:Unit)=>MP d n (l,0) f m z) (fun _ _=>True) (Q:=fun e=>e=0->∃l f,LQ d n l f)
    (fun m t _ _ _ tG dK xY _ kY=>by
     simp only[MP,dK,zC];have:=jK (l:=f) (by omega) (F:=fun m' z (_:Unit)=>Z7 d n (l,0) f t (MP d n (l,0) f m) m' z) (fun _ _=>True) (Q:=fun e=>e=0->∃l f,LQ d n l f)
      (fun m' i s _ hs hlt3 Kn hw3 _ pn=>by
       obtain⟨w,b,i1,_⟩:=qnf h hl (fun x hx y hy=>(hv x hx y hy).2) tG s hn;simp only[Z7,Kn,zC,cK,hs,aO,i1,hw3];rcases b with _|_;exact pn () trivial;simp only[zC,aO];cases (((bt w).length:Int)==0)with
       |true=>exact⟨11,rfl,fun h=>by cases h⟩|false=>exact pn () trivial)
      (fun m' _ Kn _=>by simp only[Z7,Kn,zD,ld,xY];exact kY () trivial) n 0 () (by omega) (by omega) trivial
     rw[zV]at this;exact this)
    (fun m _ dK _=>by simp only[MP,dK,zD,lf];exact⟨0,rfl,fun _=>⟨l,f,HJ⟩⟩) n 0 () (by omega) (by omega) trivial
   rw[zV]at this;exact this) n 0 () (by omega) (by omega) trivial
 rw[zV]at this;exact this;have:(e2 != 0)=true:=by simpa using S?
 simp only[this,zC];exact⟨e2,rfl,fun h=>absurd h S?⟩;have:(e != 0)=true:=by simpa using he
 simp only[this,zC];exact⟨e,rfl,fun h=>absurd h he⟩
theorem z7b(hl:HU d l){w:Nat}(hn:5000<=n):∃r,Qb n l (bt w)=some r:=by
 have G2:=hl.len;have:=jK (l:=l) (by omega) (F:=fun m z (_:Unit)=>YX l n (bt w) m z) (fun _ _=>True) (Q:=fun _=>True)
  (fun m i x _ hx aE bG hw _ ih=>by
   obtain⟨a,a1,_⟩:=hl.cod x (zX hx);simp only[YX,bG,zC,cK,hx,aO,a1,dr (a:=a) (b:=w) (n:=n) (by omega),hw];cases decide (a=w)with
   |true=>exact⟨_,rfl,trivial⟩|false=>exact ih () trivial)
  (fun m _ bG _=>by simp only[YX,bG,zD,yg];exact⟨_,rfl,trivial⟩) n 0 () (by omega) (by omega) trivial
 rw[zV]at this;obtain⟨r,h1,_⟩:=this;exact⟨r,by simp only[Qb,zbd (w:=w) (n:=n) (by omega),aO];exact h1⟩
theorem z66(hd:d.length<=12)(hn:5000<=n):∃v e,Ht n d=some (v,e)/\(e=0->∃l f,LQ d n l f/\v.length=l.length):=by
 obtain⟨e,c1,c2⟩:=qu8 hd hn;simp only[Ht,c1,aO];by_cases he:e=0;subst he;obtain⟨l,f,h⟩:=c2 rfl;have G2:=h.cok.len;have A3:=h.len;simp only[bne_self_eq_false,zD,h.cod,h.fea,aO];have:=jK (l:=l) (by omega) (F:=fun m z s=>JC d n (l,0) f m z s) (fun i s=>s.length=i) (Q:=fun r=>r.2=0->∃l f,LQ d n l f/\r.1.length=l.length)
  (fun m t _ s _ aE bG hw hI ih=>by
   simp only[JC,bG,zC];have:=jK (l:=f) (by omega) (F:=fun m' z s'=>PL d n (l,0) f t s (JC d n (l,0) f m) m' z s') (fun i s'=>s'.length<=i) (Q:=fun r=>r.2=0->∃l f,LQ d n l f/\r.1.length=l.length)
    (fun m' i x s' hx tG dK xY jO kY=>by
     obtain⟨w,b,i1,_⟩:=qnf h.dok h.cok (fun x hx y hy=>(h.val x hx y hy).2) aE x hn;simp only[PL,dK,zC,cK,hx,aO,i1,Sk,xY];cases b with
     |true=>obtain⟨r,r1⟩:=z7b h.cok (w:=w) hn;simp only[zC,r1,aO];rw[fG (by omega)];exact kY _ (by simp;omega)
     |false=>exact kY s' (by omega))
    (fun m' s' dK jO=>by simp only[PL,dK,zD,uc,hw];rw[fG (by omega)];exact ih _ (by simp;omega)) n 0 [] (by omega) (by omega) (by simp)
   rw[zV]at this;exact this)
  (fun m s bG hI=>by simp only[JC,bG,zD,ud];exact⟨_,rfl,fun _=>⟨l,f,h,hI⟩⟩) n 0 [] (by omega) (by omega) (by simp)
 rw[zV]at this;obtain⟨r,h1,h2⟩:=this;exact⟨r.1,r.2,h1,h2⟩;have:(e != 0)=true:=by simpa using he
 simp only[this,zC];exact⟨[],e,rfl,fun h=>absurd h he⟩
theorem z0y(h:HU d l){t:Nat}(ht:t<l.length)(hn:5000<=n):∃r,ve n l t=some r:=by
 have G2:=h.len;have:=jK (l:=l) (by omega) (F:=fun m z s=>FC l t n m z s) (fun i s=>s.length<=i) (Q:=fun _=>True)
  (fun m k _ s _ aE bG hw hI ih=>by
   obtain⟨b,b1⟩:=kc h aE ht hn;simp only[FC,bG,zC,b1,aO,hw];have go:∃r,T7 l t n k s (FC l t n m) n true 0=some r/\True:=by
    have:=jK (l:=l) (by omega) (F:=fun m' z b=>T7 l t n k s (FC l t n m) m' b z) (fun _ _=>True) (Q:=fun _=>True)
     (fun m' i _ b _ tG dK xY _ kY=>by
      obtain⟨b1,g1⟩:=kc h aE tG hn;obtain⟨b2,g2⟩:=kc h tG ht hn;simp only[T7,dK,zC,xY,g1,g2,aO];rcases b with _|_;exact kY false trivial;cases ((i:Int)==(t:Int))with
      |true=>exact kY true trivial|false=>cases ((i:Int)==(k:Int))with|true=>exact kY true trivial|false=>rcases b1 with _|_;exact kY true trivial;exact kY _ trivial)
     (fun m' b dK _=>by
      simp only[T7,dK,zD,ue,Sp,hw];cases b with
      |true=>simp only[zC];rw[fG (by omega)];exact ih _ (by simp;omega)|false=>exact ih s (by omega)) n 0 true (by omega) (by omega) trivial
    rw[zV]at this;exact this
   cases ((k:Int)==(t:Int))with|true=>simp only[zC,aO];exact ih s (by omega)|false=>simp only[zD,aO];rcases b with _|_;simp only[Bool.not_false,zC];exact ih s (by omega);simp only[Bool.not_true,zD];exact go)
  (fun m s bG hI=>by simp only[FC,bG,zD,uf];exact⟨_,rfl,trivial⟩) n 0 [] (by omega) (by omega) (by simp)
 rw[zV]at this;obtain⟨r,h1,_⟩:=this;exact⟨r,h1⟩
theorem qwi(hn:5000<=n){f:List Str}(h:LQ d n l f)(hc:SY n d=some 0):∃r,Sc n d=some (r,0)/\r.map dZ.Name=f:=by
 have G2:=h.cok.len;have A3:=h.len;have:=jK (l:=f) (by omega) (F:=fun m z s=>ZL d n (l,0) f m z s) (fun i s=>s.map dZ.Name=f.take i) (Q:=fun r=>r.2=0/\r.1.map dZ.Name=f)
  (fun m i x s hx aE bG hw hI ih=>by
   obtain⟨r,r1⟩:=qya h.dok x hn;obtain⟨q,q1,_⟩:=iq (l:=l) (by omega) r.1 hn;have JZ:s.length=i:=by have:=congrArg List.length hI;simp at this;omega
   simp only[ZL,bG,zC,cK,hx,aO,r1,q1,hw];rw[fG (by omega)];exact ih _ (by rw[List.map_append,hI,j9 hx];rfl))
  (fun m s bG hI=>by rw[zW (zF _)]at hI;simp only[ZL,bG,zD,uz];exact⟨_,rfl,rfl,hI⟩) n 0 [] (by omega) (by omega) (by simp)
 rw[zV]at this;obtain⟨r,h1,h2,h3⟩:=this;refine⟨r.1,?_,h3⟩;simp only[Sc,hc,aO,bne_self_eq_false,zD,h.cod,h.fea,h1];rw[<-h2]
structure bo(d:List bL)(n:Nat)(h:cY):Prop where
 ex:∃l f,LQ d n l f/\h.Types.map dH.Code=l.map dO.Code/\h.Feats.map dZ.Name=f
theorem z05(hd:d.length<=12)(hn:5000<=n):∃h e,P7 n d=some (h,e)/\(e=0->bo d n h)/\(e≠0->h=⟨[],[]⟩):=by
 obtain⟨v,e,v1,v2⟩:=z66 hd hn;simp only[P7,v1,aO];by_cases he:e=0;subst he;obtain⟨l,f,h,hv⟩:=v2 rfl;have G2:=h.cok.len;have hc:SY n d=some 0:=by
  obtain⟨e,c1,c2⟩:=qu8 hd hn;by_cases h0:e=0;rw[c1,h0];have:(e != 0)=true:=by simpa using h0
  simp only[Ht,c1,aO,this,zC,zA,zB]at v1;exact absurd v1.2 h0
 obtain⟨fs,g1,g2⟩:=qwi hn h hc;simp only[bne_self_eq_false,zD,h.cod,aO];have:=jK (l:=l) (by omega) (F:=fun m z s=>ZJ d n (v,0) (l,0) m z s) (fun i s=>s.map dH.Code=(l.take i).map dO.Code) (Q:=fun r=>r.2=0/\bo d n r.1)
  (fun m i x s hx aE bG hw hI ih=>by
   obtain⟨r,r1⟩:=z0y h.cok aE hn;obtain⟨y,hy,_⟩:=eM (l:=v) (show i<v.length by omega);have JZ:s.length=i:=by have:=congrArg List.length hI;simp at this;omega
   simp only[ZJ,bG,zC,cK,hx,hy,aO,r1,hw];rw[fG (by omega)];exact ih _ (by rw[List.map_append,hI,j9 hx,List.map_append];rfl))
  (fun m s bG hI=>by rw[zW (zF _)]at hI;simp only[ZJ,bG,zD,uo,g1,aO];exact⟨_,rfl,rfl,⟨l,f,h,hI,g2⟩⟩) n 0 [] (by omega) (by omega) (by simp)
 rw[zV]at this;obtain⟨r,h1,h2,h3⟩:=this;exact⟨r.1,r.2,h1,fun _=>h3,fun h=>absurd h2 h⟩;have:(e != 0)=true:=by simpa using he
 simp only[this,zC];exact⟨_,e,rfl,fun h=>absurd h he,fun _=>rfl⟩
end Go.Proofs
namespace Go.Proofs
open Go Go.Rx Go.Vx
set_option maxRecDepth 10000
structure pD(h:cY)(ws:List Nat):Prop where
 cod:h.Types.map dH.Code=ws.map bt
 ok:∀w∈ws,w≠0/\w<4611686018427387904
 nod:ws.Nodup
 cls:QZ ws
 len:ws.length<=1000
 pos:0<ws.length
 fl:h.Feats.length<=1000
 top:∀w∈ws,(ws[0]?).getD 0&&&w=w
variable{h:cY}
variable{ws:List Nat}
theorem pD.tl(hh:pD h ws):h.Types.length=ws.length:=by have:=congrArg List.length hh.cod;simpa using this
theorem pD.at{h:cY}{ws:List Nat}(hh:pD h ws){i:Nat}{w:Nat}(hi:ws[i]? = some w):∃t,h.Types[i]? = some t/\t.Code=bt w:=by
 have h1:(h.Types.map dH.Code)[i]? = some (bt w):=by rw[hh.cod,List.getElem?_map,hi];rfl
 rw[List.getElem?_map]at h1;rcases e:h.Types[i]? with _|t;rw[e]at h1;cases h1;rw[e]at h1;exact⟨t,rfl,Option.some.inj h1⟩
variable{n:Nat}
theorem z6r(w:Nat)(hn:5<=n):ky n [(w:Int)]=some (bt w):=by
 obtain⟨k,rfl⟩:=Nat.exists_eq_add_of_le' hn;have e0:IntKind.i64.wrap ((1:Int)-1)=0:=wr (z:=0) (by omega) (by omega);have e1:aB [(w:Int)] 0=some (w:Int):=rfl;have c0:sQ [(w:Int)] 0 0=some []:=rfl;have c1:sQ [(w:Int)] 0 1=some [(w:Int)]:=rfl;have e2:decide ((1:Int)>0)=true:=rfl;have e3:decide ((0:Int)>0)=false:=rfl;show ZF [(w:Int)] (k+5) 1=_;rw[ZF,e2,zC,e0,e1,aO,aO];by_cases hw:w=0;have:((w:Int)==0)=true:=by simp[hw]
 rw[this,zC,ZF,e3,zD,aO,zD,Sj,c0,hw];rfl;have:((w:Int)==0)=false:=by simp[hw]
 rw[this,zD,Sj,c1,sR hw];rfl
variable{a:Nat}
variable{b:Nat}
theorem zaf(ha:a≠0/\a<4611686018427387904)(hb:b≠0/\b<4611686018427387904)(hn:5<=n):Pe n (bt a) (bt b)=some (bt (a&&&b)):=by
 obtain⟨k,rfl⟩:=Nat.exists_eq_add_of_le' hn;have h1:=QV (a:=a) (b:=b) (by omega) (by omega);have h2:=z6r (a&&&b) (n:=k+5) (by omega);rw[sR ha.1,sR hb.1];have e:Pe (k+5) [(a:Int)] [(b:Int)]=Qw [(a:Int)] [(b:Int)] (k+5) [GP .u64 (a:Int) (b:Int)]:=rfl;rw[e,h1,Qw,h2];rfl
theorem z22(ha:a≠0/\a<4611686018427387904)(hb:b≠0/\b<4611686018427387904)(hn:5<=n):Hr n (bt a) (bt b)=some (decide (a&&&b=a)):=by
 obtain⟨k,rfl⟩:=Nat.exists_eq_add_of_le' hn;obtain⟨c,h1,h2⟩:=Tx (a:=a) (b:=b) (by omega) (by omega);rw[sR ha.1,sR hb.1];have e:Hr (k+5) [(a:Int)] [(b:Int)]=cond ((SF .u64 (a:Int) (b:Int)) != 0) (some false) (some true):=rfl;rw[e,h1];by_cases hc:c=0;have:=h2.1 hc;simp[hc,this];have:¬ a&&&b=a:=fun q=>hc (h2.2 q);have h3:((c:Int) != 0)=true:=by simpa using hc
 simp[this,h3]
theorem Eg(ha:a≠0/\a<4611686018427387904)(hb:b≠0/\b<4611686018427387904)(hn:5<=n):Qf n (bt a) (bt b)=some (decide (a=b)):=by
 rw[Qf,z22 ha hb hn,z22 hb ha hn];by_cases h:a&&&b=a;by_cases h':b&&&a=b;have:a=b:=by rw[<-h,Nat.and_comm,h']
 simp[h,h',this,aO];have:a≠b:=fun e=>h' (by rw[<-e,Nat.and_self]);simp[h,h',this,aO];have:a≠b:=fun e=>h (by rw[<-e,Nat.and_self]);simp[h,this,aO]
theorem z9h{h:cY}{ws:List Nat}(hh:pD h ws){c:Nat}(hc:c∈ws){n:Nat}(hn:5<=n):∀(m i:Nat),ws.length-i<m->i<=ws.length->(∀(k:Nat),k<i->ws[k]? ≠some c)->∃k:Nat,Js h.Types (bt c) (Hq n) m (i:Int)=some (k:Int)/\ws[k]? = some c
 |0,i,hm,_,_=>by omega
 |m+1,i,hm,hi,eE=>by
  have hl:=hh.tl;have Kj:=hh.len;obtain⟨q,hq⟩:=List.mem_iff_getElem?.1 hc;have PY:=(zG.1 hq).1;have aE:i<ws.length:=by rcases Nat.lt_or_ge q i with h1 |h1;exact absurd hq (eE q h1);omega
  obtain⟨w,hw,FV⟩:=eM aE;obtain⟨t,ht,he⟩:=hh.at hw;have h1:=Eg (hh.ok w FV) (hh.ok c hc) hn;simp only[Js,hl,hH aE,zC,cK,ht,aO,Hq,he,h1];by_cases e:w=c;simp only[e,yC,zC];exact⟨i,rfl,by rw[hw,e]⟩;simp only[e,yB,zD,iU aE (show ws.length<=9223372036854775807 by omega)];exact z9h hh hc hn m (i+1) (by omega) (by omega) (fun k hk=>by by_cases e2:k=i;subst e2;rw[hw];intro q;exact e (Option.some.inj q);exact eE k (by omega))
theorem zb8(hh:pD h ws){i j:Nat}(hi:ws[i]? = some a)(hj:ws[j]? = some b)(hn:2000<=n):
  (a&&&b=0->HC n h (i:Int) (j:Int)=some (0,false))/\(a&&&b≠0->∃k:Nat,HC n h (i:Int) (j:Int)=some ((k:Int),true)/\ws[k]? = some (a&&&b)):=by
 obtain⟨t,ht,he⟩:=hh.at hi;obtain⟨t',v4,NA⟩:=hh.at hj;have xD:=zX hi;have gv:=zX hj;have h1:=zaf (hh.ok a xD) (hh.ok b gv) (n:=n) (by omega);simp only[HC,cK,ht,v4,aO,he,NA,h1];constructor;intro h0;rw[h0];rfl;intro h0;have h2:=hh.cls a xD b gv h0;obtain⟨k,h3,h4⟩:=z9h hh h2 (n:=n) (by omega) n 0 (by have:=hh.len;omega) (by omega) (fun k hk=>by omega);rw[zV]at h3;have e1:(((bt (a&&&b)).length:Int)==0)=false:=by rw[sR h0];rfl
 have e2:decide ((k:Int)<0)=false:=by simp
 simp only[e1,zD,pc,h3,aO,e2];exact⟨k,rfl,h4⟩
def eW(ws:List Nat)(t:Int):Nat:=(ws[t.toNat]?).getD 0
theorem M8{t:Int}(h:0<=t/\t<(ws.length:Int)):ws[t.toNat]? = some (eW ws t):=by
 have:t.toNat<ws.length:=by omega
 rw[eW,List.getElem?_eq_getElem this];rfl
theorem Ub(hh:pD h ws){s t:Int}(hs:0<=s/\s<(ws.length:Int))(ht:0<=t/\t<(ws.length:Int))(hn:2000<=n):
  ∃r,HC n h s t=some r/\(r.2=false->eW ws s&&&eW ws t=0)/\(r.2=true->(0<=r.1/\r.1<(ws.length:Int))/\eW ws r.1=eW ws s&&&eW ws t):=by
 obtain⟨h1,h2⟩:=zb8 hh (M8 hs) (M8 ht) hn;rw[show((s.toNat:Nat):Int)=s by omega,show((t.toNat:Nat):Int)=t by omega]at h1 h2;by_cases e:eW ws s&&&eW ws t=0;exact⟨_,h1 e,fun _=>e,fun q=>by cases q⟩;obtain⟨k,h3,h4⟩:=h2 e;refine⟨_,h3,(fun q=>by cases q),fun _=>⟨?_,?_⟩⟩;have:=(zG.1 h4).1;constructor;exact Int.natCast_nonneg _;show(k:Int)<_;omega;show eW ws (k:Int)=_;rw[eW,zZ,h4];rfl
def celN(c:List aS)(i:Nat):aS:=(c[i]?).getD ⟨-1,0,[]⟩
def lY(mt:Int->Int->Option Int):Nat->List (Int×Int)->List aS->(Nat->Nat)->(Nat->Nat)->Bool×List aS×(Nat->Nat)×(Nat->Nat)
 |0,_,c,aA,d=>(true,c,aA,d)|_+1,[],c,aA,d=>(true,c,aA,d)
 |k+1,p::W,c,aA,d=>
  if aA p.1.toNat=aA p.2.toNat then lY mt k W c aA d else
  match mt (celN c (aA p.1.toNat)).kind (celN c (aA p.2.toNat)).kind with
  |none=>(false,c,aA,d)|some t=>lY mt k ((prs (celN c (aA p.1.toNat)).arcs (celN c (aA p.2.toNat)).arcs).reverse++W) (xO c (aA p.1.toNat) (aA p.2.toNat) t (J1 (celN c (aA p.1.toNat)).arcs (celN c (aA p.2.toNat)).arcs)) (gS aA (aA p.1.toNat) (aA p.2.toNat)) (GO aA d (aA p.2.toNat))
def AZ(n:Nat)(h:cY)(s t:Int):Option Int:=match HC n h s t with
 |some (r,true)=>some r|_=>none
def Nw(N:Nat)(p:Int×Int):Prop:=(0<=p.1/\p.1<(N:Int))/\(0<=p.2/\p.2<(N:Int))
theorem mO.celN{N D:Nat}{FB TB:Int}{cells:List aS}{aA d:Nat->Nat}(h:mO N D FB TB cells aA d){i:Nat}(hi:i<N):cells[i]? = some (celN cells i):=by
 have h1:=h.len;rw[Go.Proofs.celN,List.getElem?_eq_getElem (by omega)];rfl
variable{N:Nat}
variable{FB:Int}
theorem ZQ{a b:List aK}(ha:wN N FB a)(hb:wN N FB b):∀p∈prs a b,Nw N p:=fun p hp=>by
 obtain⟨x,hx,y,hy,_,rfl⟩:=af hp;exact⟨(ha.ok x hx).2.2,(hb.ok y hy).2.2⟩
structure Rnd(N D:Nat)(FB TB:Int)(W:List (Int×Int))(c:List aS)(aA d:Nat->Nat):Prop where
 hp:mO N D FB TB c aA d
 wi:∀p∈W,Nw N p
variable{D:Nat}
variable{TB:Int}
variable{W:List (Int×Int)}
variable{p:Int×Int}
variable{c:List aS}
variable{aA:Nat->Nat}
variable{d:Nat->Nat}
theorem Rnd.skip(h:Rnd N D FB TB (p::W) c aA d):Rnd N D FB TB W c aA d:=⟨h.hp,fun q hq=>h.wi q (List.mem_cons_of_mem _ hq)⟩
structure Two(N:Nat)(FB TB:Int)(c:List aS)(aA:Nat->Nat)(m n:Nat):Prop where
 hm:m<N
 hn:n<N
 em:aA m=m
 en:aA n=n
 cm:c[m]? = some (celN c m)
 cn:c[n]? = some (celN c n)
 am:wN N FB (celN c m).arcs
 an:wN N FB (celN c n).arcs
 km:0<=(celN c m).kind/\(celN c m).kind<TB
 kn:0<=(celN c n).kind/\(celN c n).kind<TB
theorem Rnd.two(h:Rnd N D FB TB (p::W) c aA d):Two N FB TB c aA (aA p.1.toNat) (aA p.2.toNat):=by
 obtain⟨h1,h2⟩:=h.wi p (by simp);have l1:=h.hp.rok.lt p.1.toNat (by omega);have l2:=h.hp.rok.lt p.2.toNat (by omega);have c1:=h.hp.celN l1;have c2:=h.hp.celN l2;exact⟨l1,l2,h.hp.rok.idem _ (by omega),h.hp.rok.idem _ (by omega),c1,c2,h.hp.ar _ _ c1,h.hp.ar _ _ c2,h.hp.kd _ _ c1,h.hp.kd _ _ c2⟩
theorem Rnd.next(h:Rnd N D FB TB (p::W) c aA d)(cZ:aA p.1.toNat≠aA p.2.toNat){t:Int}(ht:0<=t/\t<TB):
  Rnd N (D+1) FB TB ((prs (celN c (aA p.1.toNat)).arcs (celN c (aA p.2.toNat)).arcs).reverse++W) (xO c (aA p.1.toNat) (aA p.2.toNat) t (J1 (celN c (aA p.1.toNat)).arcs (celN c (aA p.2.toNat)).arcs)) (gS aA (aA p.1.toNat) (aA p.2.toNat)) (GO aA d (aA p.2.toNat)):=by
 have T:=h.two;have hM:=YM _ _ T.am.up T.an.up;refine⟨h.hp.mrg T.hm T.hn T.em T.en cZ (hM.ok T.am T.an) ht,fun q hq=>?_⟩;rcases yD.1 hq with hq |hq;exact ZQ T.am T.an q (List.mem_reverse.1 hq);exact h.wi q (List.mem_cons_of_mem _ hq)
theorem Two.tot{N:Nat}{FB TB:Int}{c:List aS}{aA:Nat->Nat}{m n:Nat}(T:Two N FB TB c aA m n)(cZ:m≠n)(t:Int)(W:List (Int×Int)):((prs (celN c m).arcs (celN c n).arcs).reverse++W).length+tot (xO c m n t (J1 (celN c m).arcs (celN c n).arcs))=W.length+tot c:=by
 have:=zbx T.cm T.cn cZ t (YM _ _ T.am.up T.an.up);simp only[zU,List.length_reverse];omega
def stk(W:List (Int×Int)):List gY:=(W.map pk).reverse
theorem z8l(p:Int×Int)(W:List (Int×Int)):stk (p::W)=stk W++[pk p]:=by simp[stk]
theorem zbu(W:List (Int×Int))(l:List (Int×Int)):stk W++l.map pk=stk (l.reverse++W):=by simp[stk]
theorem z5u(W:List (Int×Int)):(stk W).length=W.length:=by simp[stk]
theorem z9v{O:Type}(l:List O)(x:O)(hl:l.length<=1000000000):decide (((l++[x]).length:Int)>0)=true/\IntKind.i64.wrap (((l++[x]).length:Int)-1)=(l.length:Int)/\aB (l++[x]) (l.length:Int)=some x/\(l++[x]).take l.length=l:=by
 refine⟨by simp,?_,?_,by simp⟩;simp only[zU,zO,zS];exact EA (by omega) (by omega);rw[cK];simp
theorem zz{h:cY}{ws:List Nat}(hh:pD h ws){s t:Int}(hs:0<=s/\s<(ws.length:Int))(ht:0<=t/\t<(ws.length:Int)){n:Nat}(hn:2000<=n):
  (AZ n h s t=none/\(∃r,HC n h s t=some r/\r.2=false)/\eW ws s&&&eW ws t=0)\/(∃r,AZ n h s t=some r/\HC n h s t=some (r,true)/\(0<=r/\r<(ws.length:Int))/\eW ws r=eW ws s&&&eW ws t):=by
 obtain⟨⟨r,b⟩,h1,h2,h3⟩:=Ub hh hs ht hn;rcases b with _|_;exact .inl ⟨by rw[AZ,h1],⟨_,h1,rfl⟩,h2 rfl⟩;exact .inr ⟨r,by rw[AZ,h1],h1,(h3 rfl).1,(h3 rfl).2⟩
theorem v01{mt:Int->Int->Option Int}{N:Nat}{FB TB:Int}(DK:∀s t r,(0<=s/\s<TB)->(0<=t/\t<TB)->mt s t=some r->0<=r/\r<TB):∀(k:Nat)(W:List (Int×Int))(c:List aS)(aA d:Nat->Nat)(D:Nat),Rnd N D FB TB W c aA d->W.length+tot c<k->
  ∃D',D'+tot (lY mt k W c aA d).2.1<=D+W.length+tot c/\mO N D' FB TB (lY mt k W c aA d).2.1 (lY mt k W c aA d).2.2.1 (lY mt k W c aA d).2.2.2
 |0,W,c,aA,d,D,h,hk=>by omega
 |k+1,[],c,aA,d,D,h,hk=>⟨D,by simp[lY],h.hp⟩|k+1,p::W,c,aA,d,D,h,hk=>by simp only[zO]at hk ⊢;unfold lY;by_cases e:aA p.1.toNat=aA p.2.toNat;rw[if_pos e];obtain⟨D',h1,h2⟩:=v01 DK k W c aA d D h.skip (by omega);exact⟨D',by omega,h2⟩;rw[if_neg e];have T:=h.two;rcases hm:mt (celN c (aA p.1.toNat)).kind (celN c (aA p.2.toNat)).kind with _|t;exact⟨D,by simp,h.hp⟩;have ht:=DK _ _ _ T.km T.kn hm;have hT:=T.tot e t W;obtain⟨D',h1,h2⟩:=v01 DK k _ _ _ _ (D+1) (h.next e ht) (by omega);exact⟨D',by simp only;omega,h2⟩
theorem th{p7:List bD}(hp:p7.length<=1000000){N:Nat}:∀(m:Nat)(tl:List bD)(c:List aS),tl.length<m->tl.length<=1000000->c.length=N->(∀x∈tl,0<=x.atx/\x.atx<(N:Int))->Jm (p7.length:Int) m c (p7++tl)=some (qI tl c,p7)
 |0,tl,c,hm,_,_,_=>by omega
 |m+1,tl,c,hm,hl,hc,ht=>by
  unfold Jm;rcases List.eq_nil_or_concat tl with e |⟨tl,x,e⟩;subst e;have:decide (((p7++[]).length:Int)>(p7.length:Int))=false:=by simp
  rw[this,zD,so,List.append_nil];rfl;rw[List.concat_eq_append]at e;subst e;rw[<-zT];simp only[zU,zO,zS]at hm hl;obtain⟨h1,h2,h3,h4⟩:=z9v (p7++tl) x (by simp only[zU];omega);have hx:=ht x (by simp);have h5:decide (((p7++tl++[x]).length:Int)>(p7.length:Int))=true:=by simp;omega
  obtain⟨y,hy,_⟩:=eM (l:=c) (show x.atx.toNat<c.length by omega);have h6:aB c x.atx=some y:=by rw[show x.atx=((x.atx.toNat:Nat):Int) by omega,cK];exact hy
  rw[h5,zC,h2,h3,aO,h6,aO,aF,if_pos (by simp only[zU,zO,zS];omega),aF,if_pos (by simp only[zU,zO,zS,zZ];omega),zZ,h4,Nat.zero_add,fu];exact th hp m tl _ (by omega) (by omega) (by simp[hc]) (fun z hz=>ht z (List.mem_append_left _ hz))
theorem Ee{N:Nat}{FB TB:Int}{c:List aS}{aA:Nat->Nat}{m n:Nat}(T:Two N FB TB c aA m n)(cZ:m≠n)(t:Int)(o:List aK)(tl:List bD):qI ((tl++[⟨(m:Int),celN c m⟩])++[⟨(n:Int),celN c n⟩]) (xO c m n t o)=qI tl c:=by
 rw[fu,fu];have h1:(c.set m ⟨-1,t,o⟩)[n]? = some (celN c n):=by rw[List.getElem?_set_ne cZ];exact T.cn
 simp only[zZ,xO];rw[qzc h1,qzc T.cm]
theorem ep{h:cY}{ws:List Nat}(hh:pD h ws){N:Nat}{FB:Int}(J:FB<=1000000000){n:Nat}(hn:100000<=n){p7:List bD}(hp7:p7.length<=100000)(p9:List c9)(c0:List aS):∀(k:Nat)(W:List (Int×Int))(c:List aS)(aA d:Nat->Nat)(D:Nat)(tl:List bD)(t:Nat),
  Rnd N D FB ws.length W c aA d->W.length+tot c<k->D+W.length+tot c<=20000->(∀x∈tl,0<=x.atx/\x.atx<(N:Int))->qI tl c=c0->tl.length+2*(W.length+tot c)<=90000->
  ((lY (AZ n h) k W c aA d).1=true->∃kR t',MY h.Types h.Feats p7 p9 n k (stk W) c (p7++tl) t=some (true,(lY (AZ n h) k W c aA d).2.1,p7++kR,t')/\qI kR (lY (AZ n h) k W c aA d).2.1=c0/\(∀x∈kR,0<=x.atx/\x.atx<(N:Int))/\kR.length+2*tot (lY (AZ n h) k W c aA d).2.1<=tl.length+2*(W.length+tot c))/\
  ((lY (AZ n h) k W c aA d).1=false->∃t',MY h.Types h.Feats p7 p9 n k (stk W) c (p7++tl) t=some (false,c0,p7,t'))
 |0,W,c,aA,d,D,tl,t,hr,hk,_,_,_,_=>by omega
 |k+1,[],c,aA,d,D,tl,t,hr,hk,hD,oU,Ko,DF=>by have e:decide (((stk []).length:Int)>0)=false:=rfl;simp only[lY,MY,e,zD,sy];exact⟨fun _=>⟨tl,t,rfl,Ko,oU,by simp⟩,fun q=>by cases q⟩
 |k+1,p::W,c,aA,d,D,tl,t,hr,hk,hD,oU,Ko,DF=>by
  simp only[zO]at hk hD DF;obtain⟨HI,B6⟩:=hr.wi p (by simp);obtain⟨h1,h2,h3,h4⟩:=z9v (stk W) (pk p) (by rw[z5u];omega);have f1:=ff hr.hp (n:=n) (by omega) HI h.Types h.Feats (p7++tl) p9;have f2:=ff hr.hp (n:=n) (by omega) B6 h.Types h.Feats (p7++tl) p9;have b7:=z5u W;rw[z8l];unfold MY;simp only[h1,h2,h3,zC,aO,zZ,h4];rw[aF,if_pos (by simp only[zU,zO,zS];omega),aF,if_pos (by simp only[zU,zO,zS];omega)];simp only[pk,f1,f2,aO];unfold lY;by_cases e:aA p.1.toNat=aA p.2.toNat;have e1:(rI aA p.1==rI aA p.2)=true:=by simp[rI,e]
  simp only[e1,zC];rw[if_pos e];have:=ep hh J hn hp7 p9 c0 k W c aA d D tl t hr.skip (by omega) (by omega) oU Ko (by omega);refine⟨fun q=>?_,this.2⟩;obtain⟨kR,t',r1,r2,r3,r4⟩:=this.1 q;exact⟨kR,t',r1,r2,r3,by simp only[zO];omega⟩;have e1:(rI aA p.1==rI aA p.2)=false:=by simp only[rI,beq_eq_false_iff_ne];omega
  have T:=hr.two;have i1:aB c (rI aA p.1)=some (celN c (aA p.1.toNat)):=by rw[rI,cK];exact T.cm
  have i2:aB c (rI aA p.2)=some (celN c (aA p.2.toNat)):=by rw[rI,cK];exact T.cn
  simp only[e1,zD,i1,i2,aO];rw[if_neg e];have eR:=hr.hp.len;rcases zz hh T.km T.kn (n:=n) (by omega)with⟨m1,⟨⟨q1,q2⟩,m2,m3⟩,_⟩|⟨r,m1,m2,m3,_⟩;simp only at m3;subst m3;have hb:=th (p7:=p7) (by omega) n tl c (by omega) (by omega) eR oU;have C8:HC n (cY.mk h.Types h.Feats) (celN c (aA p.1.toNat)).kind (celN c (aA p.2.toNat)).kind=some (q1,false):=m2;simp only[m1,C8,aO,Bool.not_false,zC,Je,hb,Ko];exact⟨(fun q=>by cases q),fun _=>⟨t,rfl⟩⟩;have C8:HC n (cY.mk h.Types h.Feats) (celN c (aA p.1.toNat)).kind (celN c (aA p.2.toNat)).kind=some (r,true):=m2;have ta:=Gd T.cm;have tb:=Gd T.cn;obtain⟨o,j1,j2⟩:=fe T.am T.an J (by omega) (by omega) (n:=n) (by omega) n 0 (celN c (aA p.1.toNat)).arcs (by omega) (by omega) (rH.nilr T.am.up);rw[zV,List.take_zero,z4t,List.map_nil]at j1;have j3:=j2.uniq (YM _ _ T.am.up T.an.up);have jc:Sw n (celN c (aA p.1.toNat)).arcs=some (celN c (aA p.1.toNat)).arcs:=by
   rw[Sw];cases hL:(celN c (aA p.1.toNat)).arcs with
   |nil=>first |rfl |(simp[bothL,hL])
   |cons x l=>rw[bothL];simp only[zC,zD];rw[hL]at ta;rw[aF,if_pos (by omega)]
  have jj:Qx n (celN c (aA p.1.toNat)).arcs (celN c (aA p.2.toNat)).arcs=some (o,(prs (celN c (aA p.1.toNat)).arcs (celN c (aA p.2.toNat)).arcs).map pk):=by rw[Qx,jc,aO,j1]
  have e2:(c.set (0+(rI aA p.1).toNat) (aS.mk (-1) r o))[aA p.2.toNat]? = some (celN c (aA p.2.toNat)):=by rw[rI,zZ,Nat.zero_add,List.getElem?_set_ne e];exact T.cn
  have i3:aB (c.set (0+(rI aA p.1).toNat) (aS.mk (-1) r o)) (rI aA p.2)=some (celN c (aA p.2.toNat)):=by rw[show rI aA p.2=((aA p.2.toNat:Nat):Int)from rfl,cK];exact e2
  simp only[m1,C8,aO,Bool.not_true,zD,jj,uw,uu,i1];rw[aF,if_pos (by simp only[zU];omega)];simp only[aO,i3];rw[aF,if_pos (by simp only[zU,zO,zS];omega)];have nI:=Gi (celN c (aA p.1.toNat)).arcs (celN c (aA p.2.toNat)).arcs;simp only[aO];rw[aF,if_pos (by simp only[yA];omega)];have hT:=T.tot e r W;have ih:=ep hh J hn hp7 p9 c0 k _ _ _ _ (D+1) ((tl++[⟨rI aA p.1,celN c (aA p.1.toNat)⟩])++[⟨rI aA p.2,celN c (aA p.2.toNat)⟩]) (t+1+1) (hr.next e m3) (by omega) (by omega)
   (fun x hx=>by simp only[yD,zI,List.not_mem_nil,or_false]at hx;rcases hx with(hx |hx)|hx;exact oU x hx;subst hx;exact hr.hp.rI HI;subst hx;exact hr.hp.rI B6)
   ((Ee T e r _ tl).trans Ko) (by simp only[zU,zO,zS];simp only[zU]at hT;omega)
  have ea:p7++tl++[⟨rI aA p.1,celN c (aA p.1.toNat)⟩]++[⟨rI aA p.2,celN c (aA p.2.toNat)⟩]=p7++((tl++[⟨rI aA p.1,celN c (aA p.1.toNat)⟩])++[⟨rI aA p.2,celN c (aA p.2.toNat)⟩]):=by simp
  have ec:(c.set (0+(rI aA p.1).toNat) (aS.mk (-1) r o)).set (0+(rI aA p.2).toNat) (aS.mk (rI aA p.1) 0 [])=xO c (aA p.1.toNat) (aA p.2.toNat) r (J1 (celN c (aA p.1.toNat)).arcs (celN c (aA p.2.toNat)).arcs):=by simp[xO,rI,j3]
  rw[ea,ec,zbu];refine⟨fun q=>?_,ih.2⟩;obtain⟨kR,t',r1,r2,r3,r4⟩:=ih.1 q;refine⟨kR,t',r1,r2,r3,?_⟩;simp only[zU,zO,zS]at r4 hT ⊢;omega
theorem z3k{N D B:Nat}{FB TB:Int}{cells:List aS}{aA d:Nat->Nat}(h:mO N D FB TB cells aA d)(hB:tot cells<=B)(hB2:B<=20000)(hN:N<=1000)(hD:D<=20000)(p2:List dH)(p3:List dZ)(p9:List bD)(iC:List c9):∀(n:Nat)(s:List Int×List aN)(v:Int)(w:k7 Int Int)(t:Nat),Sn N B s->(0<=v/\v<(N:Int))->Rep w s.1->N-s.1.length+20001<n->
  ∃w' t',TE n v p2 p3 w s.2 t cells p9 iC=some ((vis cells aA n s v).1,w',(vis cells aA n s v).2.2,t')/\Rep w' (vis cells aA n s v).2.1
 |0,s,v,w,t,hs,hv,hw,hn=>by omega
 |n+1,s,v,w,t,hs,hv,hw,hn=>by
  have hf:=ff h (n:=n) (by omega) hv p2 p3 p9 iC;have hr:=h.rI hv;have rY:=hs.le;show ∃w' t',pa n (TE n) v p2 p3 w s.2 t cells p9 iC=_/\_;simp only[pa,hf,aO,hw.mget];unfold vis;by_cases hm:rI aA v∈s.1;simp only[hm,if_true,Option.isSome_some,zC,Option.getD_some];exact⟨w,t,rfl,hw⟩;have hc:=h.cel hr;have gm:aB cells (rI aA v)=some (pB cells (rI aA v)):=by rw[show rI aA v=(((rI aA v).toNat:Nat):Int) by omega,cK];exact hc
  have Wz:=h.ar _ _ hc;have Az:=Gd hc;have xZ:=hs.snoc hr hm (pB cells (rI aA v)).kind;have G3:=xZ.le;simp only[zU,zO,zS]at G3;have b7:=hs.len;simp only[hm,if_false,Option.isSome_none,zD,gm,aO];rw[aF,if_pos (by omega)];have tC:∀a∈(pB cells (rI aA v)).arcs,0<=a.To/\a.To<(N:Int):=fun a ha=>(Wz.ok a ha).2.2;have key:∀(m i:Nat)(aX:List aK)(s':List Int×List aN)(w:k7 Int Int)(t:Nat),(pB cells (rI aA v)).arcs.length-i<m->i<=(pB cells (rI aA v)).arcs.length->aX.length=i->Sn N B s'->s.1.length+1<=s'.1.length->Rep w s'.1->
    ∃w' t',Jr p2 p3 s.2 cells p9 iC (pB cells (rI aA v)) (TE n) m (i:Int) aX w s'.2 t=Th s.2 (vK (vis cells aA n) ((pB cells (rI aA v)).arcs.drop i) s' aX).1 w' (vK (vis cells aA n) ((pB cells (rI aA v)).arcs.drop i) s' aX).2.2 t'/\Rep w' (vK (vis cells aA n) ((pB cells (rI aA v)).arcs.drop i) s' aX).2.1/\Sn N B (vK (vis cells aA n) ((pB cells (rI aA v)).arcs.drop i) s' aX).2/\s.1.length+1<=(vK (vis cells aA n) ((pB cells (rI aA v)).arcs.drop i) s' aX).2.1.length:=by
   intro m;induction m with
   |zero=>intro i aX s' w t hm;omega|succ m ih=>intro i aX s' w t hm hi ha C5 G4 B3;unfold Jr;by_cases aE:i<(pB cells (rI aA v)).arcs.length;obtain⟨a,hga,xD⟩:=eM aE;have oU:=tC a xD;have hle':=C5.le;obtain⟨w1,t1,g1,g2⟩:=z3k h hB hB2 hN hD p2 p3 p9 iC n s' a.To w t C5 oU B3 (by omega);obtain⟨q1,q2,q3⟩:=cq h hB n s' a.To C5 oU (by omega);simp only[hH aE,zC,cK,hga,aO,g1,iU aE (show(pB cells (rI aA v)).arcs.length<=9223372036854775807 by omega)];rw[aF,if_pos (by omega),aW hga,vK];exact ih (i+1) _ _ w1 t1 (by omega) (by omega) (by simp[ha]) q1 (by omega) g2;rw[bT aE];simp only[iF aE,zD,vK];exact⟨w,t,rfl,B3,C5,G4⟩
  obtain⟨w1,t1,g1,g2,g3,g4⟩:=key n 0 [] (s.1++[rI aA v],s.2++[⟨(pB cells (rI aA v)).kind,[]⟩]) (D6 (fun a b=>a==b) w (rI aA v) (s.2.length:Int)) (t+1) (by omega) (by omega) rfl xZ (by simp) (by rw[b7];exact hw.snoc hm);rw[zV]at g1;rw[List.drop_zero]at g1 g2 g3 g4;rw[g1];refine⟨w1,t1,?_,g2⟩;obtain⟨x,hx,_⟩:=eM (l:=(vK (vis cells aA n) (pB cells (rI aA v)).arcs (s.1++[rI aA v],s.2++[⟨(pB cells (rI aA v)).kind,[]⟩]) []).2.2) (show s.2.length<_ by have:=g3.len;omega);simp only[Th,cK,hx,aO,Nat.zero_add,zZ,Eu,<-b7,zM,Option.getD_some]
def NY(n:Nat)(cells:List aS)(aA:Nat->Nat)(v:Int):GFS:=⟨(vis cells aA n ([],[]) v).2.2⟩
variable{n:Nat}
theorem ww{N D:Nat}{FB TB:Int}{cells:List aS}{aA d:Nat->Nat}(h:mO N D FB TB cells aA d)(hB:tot cells<=20000)(hN:N<=1000)(hD:D<=20000)(hn:30000<=n){v:Int}(hv:0<=v/\v<(N:Int))(p2:List dH)(p3:List dZ)(p9:List bD)(iC:List c9):
  BW n v p2 p3 cells p9 iC=some (NY n cells aA v,true):=by
 have hl:=h.len;obtain⟨w',t',g1,_⟩:=z3k h hB (by omega) hN hD p2 p3 p9 iC n ([],[]) v GM 0 (Sn.nil N 20000) hv Rep.nil (by simp;omega);have e1:decide (v<0)=false:=by simp;omega
 have e2:decide (v>=(cells.length:Int))=false:=by simp;omega
 simp only[BW,e1,e2,zD,aO,g1,NY]
def ES(n:Nat)(cells:List aS)(aA:Nat->Nat)(N:Nat):List GFS:=(List.range N).map fun(i:Nat)=>NY n cells aA (i:Int)
theorem zaa{N D:Nat}{FB TB:Int}{cells:List aS}{aA d:Nat->Nat}(h:mO N D FB TB cells aA d)(hB:tot cells<=20000)(hN:N<=1000)(hD:D<=20000){n:Nat}(hn:30000<=n)(p2:List dH)(p3:List dZ)(p9:List bD)(iC:List c9):∀(m i:Nat),N-i<m->i<=N->Jf p2 p3 cells p9 iC n m (i:Int) (ES n cells aA i)=some (ES n cells aA N)
 |0,i,hm,_=>by omega
 |m+1,i,hm,hi=>by
  unfold Jf;have hl:=h.len;simp only[Iz,aO,hl];by_cases aE:i<N;have qC:=ww h hB hN hD hn (v:=(i:Int)) (by omega) p2 p3 p9 iC;have uH:(ES n cells aA i).length=i:=by simp[ES]
  have e:ES n cells aA i++[GFS.mk (NY n cells aA (i:Int)).Nodes]=ES n cells aA (i+1):=by simp[ES,List.range_succ]
  simp only[hH aE,zC,qC,aO,iU aE (show N<=9223372036854775807 by omega)];rw[aF,if_pos (by omega),e];exact zaa h hB hN hD hn p2 p3 p9 iC m (i+1) (by omega) (by omega);have:i=N:=by omega
  subst this;simp only[iF aE,zD,sf]
theorem zbz{N D:Nat}{FB TB:Int}{cells:List aS}{aA d:Nat->Nat}(h:mO N D FB TB cells aA d)(hB:tot cells<=20000)(hN:N<=1000)(hD:D<=20000)(hn:30000<=n)(p2:List dH)(p3:List dZ)(p9:List bD)(iC:List c9):Iw n p2 p3 cells p9 iC=some (ES n cells aA N):=by
 have:=zaa h hB hN hD hn p2 p3 p9 iC n 0 (by omega) (by omega);rw[zV]at this;exact this
theorem za3{l:List GFS}(hs:∀f∈l,d6 f 1000)(hl:l.length<=1000000){n:Nat}(hn:3000000<=n):∀(m i:Nat),l.length-i<m->i<=l.length->Jc l l n m (i:Int)=some true
 |0,i,hm,_=>by omega
 |m+1,i,hm,hi=>by unfold Jc;by_cases aE:i<l.length;obtain⟨f,hf,A0⟩:=eM aE;have:=du (hs f A0) (hs f A0) hn;rw[fq.2 rfl]at this;have e:((0:Int)==0)=true:=rfl;simp only[hH aE,zC,cK,hf,aO,this,e,Bool.not_true,zD,iU aE (show l.length<=9223372036854775807 by omega)];exact za3 hs hl hn m (i+1) (by omega) (by omega);simp only[iF aE,zD,uy]
theorem zbq{l:List GFS}(hs:∀f∈l,d6 f 1000)(hl:l.length<=1000000)(hn:3000000<=n):Z4 n l l=some true:=by
 have:=za3 hs hl hn n 0 (by omega) (by omega);rw[zV]at this;have e:((l.length:Int) != (l.length:Int))=false:=by simp
 simp only[Z4,e,zD,this]
structure GQ(h:cY)(f:GFS):Prop where
 sm:d6 f 12
 ne:0<f.Nodes.length
 nok:∀x∈f.Nodes,(0<=x.Typex/\x.Typex<(h.Types.length:Int))/\wN f.Nodes.length (h.Feats.length:Int) x.Arcs
 can:pG f 0=f
 gok:AE f
theorem z92{h:cY}{z:Int}{rc:Int->Option Int}{x:aN}{Q:Prop}(hx:x.Arcs.length<=12)(hr:∃r,rc (IntKind.i64.wrap (z+1))=some r/\(r=0->Q)):∀(m k:Nat),x.Arcs.length-k<m->k<=x.Arcs.length->∃r,Il h z rc x m (k:Int)=some r/\(r=0->Q/\∀a∈x.Arcs.drop k,a.Feat<(h.Feats.length:Int))
 |0,k,hm,_=>by omega
 |m+1,k,hm,hk=>by unfold Il;by_cases aE:k<x.Arcs.length;obtain⟨a,ha,_⟩:=eM aE;simp only[hH aE,zC,cK,ha,aO,iU aE (show x.Arcs.length<=9223372036854775807 by omega)];by_cases hf:a.Feat>=(h.Feats.length:Int);simp only[hf,yC,zC];exact⟨_,rfl,fun q=>by cases q⟩;simp only[hf,yB,zD];obtain⟨r,r1,r2⟩:=z92 hx hr m (k+1) (by omega) (by omega);refine⟨r,r1,fun q=>⟨(r2 q).1,fun b hb=>?_⟩⟩;rw[aW ha]at hb;rcases zI.1 hb with rfl |hb;omega;exact(r2 q).2 b hb;simp only[iF aE,zD,yu,bT aE];obtain⟨r,r1,r2⟩:=hr;exact⟨r,r1,fun q=>⟨r2 q,fun a ha=>by cases ha⟩⟩
theorem z91{h:cY}{f:GFS}{n:Nat}{r3:GFS×Int}{Q:Prop}(hs:d6 f 12)(hn:12<n)(hk:∃r,Im f n r3=some r/\(r=0->Q)):∀(m i:Nat),f.Nodes.length-i<m->i<=f.Nodes.length->∃r,T2 h f n r3 m (i:Int)=some r/\(r=0->Q/\∀x∈f.Nodes.drop i,x.Typex<(h.Types.length:Int)/\∀a∈x.Arcs,a.Feat<(h.Feats.length:Int))
 |0,i,hm,_=>by omega
 |m+1,i,hm,hi=>by have y4:=hs.nodes;unfold T2;by_cases aE:i<f.Nodes.length;obtain⟨x,hx,gM⟩:=eM aE;have Ay:=hs.arcs x gM;simp only[hH aE,zC,cK,hx,aO];by_cases ht:x.Typex>=(h.Types.length:Int);simp only[ht,yC,zC];exact⟨_,rfl,fun q=>by cases q⟩;simp only[ht,yB,zD];have ih:=z91 (h:=h) hs hn hk m (i+1) (by omega) (by omega);rw[<-iU aE (show f.Nodes.length<=9223372036854775807 by omega)]at ih;obtain⟨r,r1,r2⟩:=z92 (h:=h) (z:=(i:Int)) (x:=x) Ay ih n 0 (by omega) (by omega);rw[zV]at r1;refine⟨r,r1,fun q=>?_⟩;obtain⟨⟨q1,q2⟩,q3⟩:=r2 q;refine⟨q1,fun y hy=>?_⟩;rw[aW hx]at hy;rcases zI.1 hy with rfl |hy;exact⟨by omega,by rw[List.drop_zero]at q3;exact q3⟩;exact q2 y hy;simp only[iF aE,zD,bT aE];obtain⟨r,r1,r2⟩:=hk;exact⟨r,r1,fun q=>⟨r2 q,fun a ha=>by cases ha⟩⟩
variable{n:Nat}
theorem Dt{f:GFS}(hs:d6 f 12)(h:cY)(hn:3000000<=n):∃r,Hj n h f=some r/\(r=0->GQ h f):=by
 have h2:=qx7 hs (by omega) (n:=n) (show 2*12+4<=n by omega);by_cases e:I4 f=0;rw[if_pos e]at h2;obtain⟨g1,g2,g3⟩:=quh.1 e;have jN:uL f 0:=⟨by omega,by omega⟩;have b?:=hs.canon g3 (r:=0) jN;have q2:=du (f:=f) (g:=⟨(pG f 0).Nodes⟩) (n:=n) (hs.up (by omega)) (b?.up (by omega)) hn;have hk:∃r,Im f n (pG f 0,0)=some r/\(r=0->f=pG f 0):=by simp only[Im,q2,aO];cases hb:(Dx f ⟨(pG f 0).Nodes⟩==0);exact⟨_,rfl,fun q=>by cases q⟩;exact⟨_,rfl,fun _=>fq.1 (by simpa using hb)⟩
 obtain⟨r,r1,r2⟩:=z91 (h:=h) hs (by omega) hk n 0 (by have:=hs.nodes;omega) (by omega);rw[zV]at r1;refine⟨r,by simp only[Hj,h2,aO];exact r1,fun q=>?_⟩;obtain⟨q1,q3⟩:=r2 q;rw[List.drop_zero]at q3;have hc:=z2c g3 jN;refine⟨hs,by omega,fun x hx=>⟨⟨(g3 x hx).ty,(q3 x hx).1⟩,?_,fun a ha=>?_⟩,q1.symm,g3⟩;exact hc.up x (q1 ▸ hx);have:=(g3 x hx).arc a ha;exact⟨this.1,(q3 x hx).2 a ha,this.2⟩;rw[if_neg e]at h2;have e':(I4 f != 0)=true:=by simp[e]
 exact⟨I4 f,by simp only[Hj,h2,aO,e',zC],fun q=>absurd q e⟩
theorem z9d{h:cY}{l:List GFS}(hl:l.length<=1000000){n:Nat}(hn:3000000<=n):∀(m i:Nat),l.length-i<m->i<=l.length->∃b,Ih h l n m (i:Int)=some b/\(b=true->∀f∈l.drop i,GQ h f)
 |0,i,hm,_=>by omega
 |m+1,i,hm,hi=>by
  unfold Ih;by_cases aE:i<l.length;obtain⟨f,hf,_⟩:=eM aE;obtain⟨b,b1,b2⟩:=z7m f (n:=n) (by omega);simp only[hH aE,zC,cK,hf,aO,b1,iU aE (show l.length<=9223372036854775807 by omega)];rcases b with _|_;simp only[Bool.not_false,zC,aO];exact⟨false,rfl,fun q=>by cases q⟩;obtain⟨r,r1,r2⟩:=Dt (b2 rfl) h hn;simp only[Bool.not_true,zD,r1,aO];cases hr:(r != 0)with
  |true=>simp only[zC];exact⟨false,rfl,fun q=>by cases q⟩|false=>simp only[zD];obtain⟨b,g1,g2⟩:=z9d hl hn m (i+1) (by omega) (by omega);refine⟨b,g1,fun q g hg=>?_⟩;rw[aW hf]at hg;rcases zI.1 hg with rfl |hg;exact r2 (by simpa using hr);exact g2 q g hg
  simp only[iF aE,zD,ym,bT aE];exact⟨true,rfl,fun _ f hf=>by cases hf⟩
theorem zaw(h:cY){l:List GFS}(hl:l.length<=1000000)(hn:3000000<=n):∃b,ju n h l=some b/\(b=true->∀f∈l,GQ h f):=by
 obtain⟨b,h1,h2⟩:=z9d (h:=h) hl hn n 0 (by omega) (by omega);rw[zV]at h1;exact⟨b,h1,h2⟩
def IM(k:Nat)(a:aK):aK:=⟨a.Feat,a.To+(k:Int)⟩
def B0(k:Nat)(x:aN):aS:=⟨-1,x.Typex,x.Arcs.map (IM k)⟩
theorem Lm{a:aK}{k:Nat}(h:0<=a.To/\a.To<1000)(hk:k<=1000):IntKind.i64.wrap (a.To+(k:Int))=a.To+(k:Int):=wr (by omega) (by omega)
theorem z3x{p4:List aS}{z:Int}{l24:List aS}{t:Nat}{rc:Int->List aS->Nat->Option (Int×List aS×Nat)}{x:aN}(hx:x.Arcs.length<=12)(hp:p4.length<=1000)(tC:∀a∈x.Arcs,0<=a.To/\a.To<1000):∀(m i:Nat),x.Arcs.length-i<m->i<=x.Arcs.length->Jo p4 z l24 t rc x m (i:Int) ((x.Arcs.take i).map (IM p4.length))=Tg z l24 t rc x (x.Arcs.map (IM p4.length))
 |0,i,hm,_=>by omega
 |m+1,i,hm,hi=>by
  unfold Jo;by_cases aE:i<x.Arcs.length;obtain⟨a,ha,xD⟩:=eM aE;have e:(x.Arcs.take i).map (IM p4.length)++[aK.mk a.Feat (a.To+(p4.length:Int))]=(x.Arcs.take (i+1)).map (IM p4.length):=by rw[j9 ha,List.map_append];rfl
  simp only[hH aE,zC,cK,ha,aO,Lm (tC a xD) hp,iU aE (show x.Arcs.length<=9223372036854775807 by omega),e];rw[aF,if_pos (by simp only[yA,List.length_take];omega)];exact z3x hx hp tC m (i+1) (by omega) (by omega);simp only[iF aE,zD];rw[zW (by omega)]
theorem z3w{f:GFS}(hf:d6 f 12)(tC:∀x∈f.Nodes,∀a∈x.Arcs,0<=a.To/\a.To<1000){p4:List aS}(hp:p4.length<=1000){n:Nat}(hn:20<=n){t0:Nat}:∀(m i:Nat),f.Nodes.length-i<m->i<=f.Nodes.length->PP f p4 n m (i:Int) (p4++(f.Nodes.take i).map (B0 p4.length)) (t0+i)=some ((p4.length:Int),p4++f.Nodes.map (B0 p4.length),t0+f.Nodes.length)
 |0,i,hm,_=>by omega
 |m+1,i,hm,hi=>by
  have y4:=hf.nodes;unfold PP;by_cases aE:i<f.Nodes.length;obtain⟨x,hx,gM⟩:=eM aE;have h2:=z3x (z:=(i:Int)) (l24:=p4++(f.Nodes.take i).map (B0 p4.length)) (t:=t0+i) (rc:=PP f p4 n m) (hf.arcs x gM) hp (tC x gM) n 0 (by have:=hf.arcs x gM;omega) (by omega);rw[zV,List.take_zero,List.map_nil]at h2;have e:p4++(f.Nodes.take i).map (B0 p4.length)++[aS.mk (-1) x.Typex (x.Arcs.map (IM p4.length))]=p4++(f.Nodes.take (i+1)).map (B0 p4.length):=by rw[j9 hx,List.map_append,zT];rfl
  simp only[hH aE,zC,cK,hx,aO,h2,Tg,iU aE (show f.Nodes.length<=9223372036854775807 by omega),e];rw[aF,if_pos (by simp only[zU,yA,List.length_take];omega)];exact z3w hf tC hp hn m (i+1) (by omega) (by omega);have e:i=f.Nodes.length:=by omega
  subst e;simp only[iF aE,zD,sr,List.take_length]
theorem Oh{f:GFS}(hf:d6 f 12)(tC:∀x∈f.Nodes,∀a∈x.Arcs,0<=a.To/\a.To<1000){p4:List aS}(hp:p4.length<=1000)(hn:20<=n)(t0:Nat)(p2:List dH)(p3:List dZ)(p6:List bD)(p8:List c9):TA n f p2 p3 p4 t0 p6 p8=some ((p4.length:Int),p4++f.Nodes.map (B0 p4.length),t0+f.Nodes.length):=by
 have:=z3w hf tC hp hn (t0:=t0) n 0 (by have:=hf.nodes;omega) (by omega);rw[zV,List.take_zero,List.map_nil,List.append_nil,Nat.add_zero]at this;exact this
def uR(a k:Nat):List Int:=(List.range k).map fun i=>((a+i:Nat):Int)
theorem z8g(a k:Nat):uR a (k+1)=uR a k++[((a+k:Nat):Int)]:=by simp[uR,List.range_succ]
theorem ab(a k:Nat):(uR a k).length=k:=by simp[uR]
structure Flat(N:Nat)(FB TB:Int)(c:aS):Prop where
 fw:c.forward= -1
 ar:wN N FB c.arcs
 kd:0<=c.kind/\c.kind<TB
 sm:c.arcs.length<=12
theorem mO.init{N:Nat}{FB TB:Int}{cells:List aS}(hl:cells.length=N)(h:∀c∈cells,Flat N FB TB c):mO N 0 FB TB cells id (fun _=>0) where
 rok:=⟨fun i hi=>hi,fun i hi=>rfl,fun i hi=>rfl,fun i hi=>zF _⟩
 cok:=⟨fun i c hc _=>(h c (zX hc)).fw,fun i c hc cZ=>absurd rfl cZ⟩
 len:=hl
 ar i c hc:=(h c (zX hc)).ar
 kd i c hc:=(h c (zX hc)).kd
theorem cr:∀{cells:List aS},(∀c∈cells,c.arcs.length<=12)->tot cells<=12*cells.length
 |[],_=>by simp[tot]
 |c::l,h=>by have ih:=cr (cells:=l) fun x hx=>h x (List.mem_cons_of_mem _ hx);have:=h c (by simp);simp only[tot,zQ,List.sum_cons,zO]at ih ⊢;omega
theorem RG{k:Nat}{l:List aK}(h:lU l):lU (l.map (IM k)):=by
 unfold lU at*;rw[List.pairwise_map];exact h.imp fun{a b} q=>q
variable{h:cY}
theorem GQ.flat{f:GFS}(hf:GQ h f){N k:Nat}(hk:k+f.Nodes.length<=N){c:aS}(hc:c∈f.Nodes.map (B0 k)):Flat N (h.Feats.length:Int) (h.Types.length:Int) c:=by
 obtain⟨x,hx,rfl⟩:=List.mem_map.1 hc;obtain⟨h1,h2⟩:=hf.nok x hx;refine⟨rfl,⟨RG h2.up,fun a ha=>?_⟩,h1,by simp[B0];exact hf.sm.arcs x hx⟩;obtain⟨b,hb,rfl⟩:=List.mem_map.1 ha;have:=h2.ok b hb;exact⟨this.1,this.2.1,by show 0<=b.To+(k:Int);omega,by show b.To+(k:Int)<_;omega⟩
theorem GQ.to{f:GFS}(hf:GQ h f):∀x∈f.Nodes,∀a∈x.Arcs,0<=a.To/\a.To<1000:=fun x hx a ha=>by
 have:=(hf.nok x hx).2.ok a ha;have:=hf.sm.nodes;omega
variable{n:Nat}
theorem ja{aA:Nat->Nat}{m i j:Nat}(h:aA i=aA j):gS aA m n i=gS aA m n j:=by unfold gS;rw[h]
theorem Ph{mt:Int->Int->Option Int}{i j:Nat}:∀(k:Nat)(W:List (Int×Int))(c:List aS)(aA d:Nat->Nat),aA i=aA j->(lY mt k W c aA d).2.2.1 i=(lY mt k W c aA d).2.2.1 j
 |0,W,c,aA,d,h=>h|k+1,[],c,aA,d,h=>h
 |k+1,p::W,c,aA,d,h=>by unfold lY;by_cases e:aA p.1.toNat=aA p.2.toNat;rw[if_pos e];exact Ph k W c aA d h;rw[if_neg e];rcases mt (celN c (aA p.1.toNat)).kind (celN c (aA p.2.toNat)).kind with _|t;exact h;exact Ph k _ _ _ _ (ja h)
theorem nk{mt:Int->Int->Option Int}{N:Nat}{FB TB:Int}(DK:∀s t r,(0<=s/\s<TB)->(0<=t/\t<TB)->mt s t=some r->0<=r/\r<TB):∀(k:Nat)(W:List (Int×Int))(c:List aS)(aA d:Nat->Nat)(D:Nat),Rnd N D FB TB W c aA d->W.length+tot c<k->(lY mt k W c aA d).1=true->∀p∈W,(lY mt k W c aA d).2.2.1 p.1.toNat=(lY mt k W c aA d).2.2.1 p.2.toNat
 |0,W,c,aA,d,D,h,hk,_=>by omega
 |k+1,[],c,aA,d,D,h,hk,_=>fun p hp=>by cases hp
 |k+1,p::W,c,aA,d,D,h,hk,hb=>by simp only[zO]at hk;have T:=h.two;unfold lY at hb ⊢;by_cases e:aA p.1.toNat=aA p.2.toNat;rw[if_pos e]at hb ⊢;intro q hq;rcases zI.1 hq with rfl |hq;exact Ph k W c aA d e;exact nk DK k W c aA d D h.skip (by omega) hb q hq;rw[if_neg e]at hb ⊢;rcases hm:mt (celN c (aA p.1.toNat)).kind (celN c (aA p.2.toNat)).kind with _|t;rw[hm]at hb;cases hb;rw[hm]at hb;have ht:=DK _ _ _ T.km T.kn hm;have hT:=T.tot e t W;intro q hq;rcases zI.1 hq with rfl |hq;refine Ph k _ _ _ _ ?_;simp[gS,e];exact nk DK k _ _ _ _ (D+1) (h.next e ht) (by omega) hb q (List.mem_append_right _ hq)
theorem zbb{ws:List Nat}(hh:pD h ws)(hn:2000<=n):∀s t r,(0<=s/\s<(ws.length:Int))->(0<=t/\t<(ws.length:Int))->AZ n h s t=some r->0<=r/\r<(ws.length:Int):=fun s t r hs ht hr=>by
 rcases zz hh hs ht hn with⟨h1,_⟩|⟨q,h1,_,h3,_⟩;rw[h1]at hr;cases hr;rw[h1]at hr;have:=Option.some.inj hr;subst this;exact h3
theorem Ed{a b:Nat}(xE:b&&&a=a)(ha:a<4096)(hb:b<4096)(hl:(bl b).length<=(bl a).length):a=b:=by
 have hs:∀i,a.testBit i=true->b.testBit i=true:=fun i h=>by have:=congrArg (fun z=>z.testBit i) xE;simp only[Nat.testBit_and,h,Bool.and_true]at this;exact this
 have e1:(List.range 64).filter (fun i=>a.testBit i)=((List.range 64).filter fun i=>b.testBit i).filter fun i=>a.testBit i:=by
  rw[List.filter_filter];refine List.filter_congr fun i _=>?_;rcases h:a.testBit i with _|_
  simp;simp[hs i h]
 simp only[bl,yA]at hl;rw[e1]at hl;have e2:((List.range 64).filter fun i=>b.testBit i).filter (fun i=>a.testBit i)=(List.range 64).filter fun i=>b.testBit i:=(List.filter_sublist).eq_of_length_le hl;refine Nat.eq_of_testBit_eq fun i=>?_;by_cases hi:i<64;cases AA:b.testBit i with
 |false=>rcases hai:a.testBit i with _|_;rfl;rw[hs i hai]at AA;cases AA
 |true=>have:i∈(List.range 64).filter fun i=>b.testBit i:=List.mem_filter.2 ⟨List.mem_range.2 hi,AA⟩;rw[<-e2]at this;exact(List.mem_filter.1 this).2
 rw[Nat.testBit_lt_two_pow (Nat.lt_of_lt_of_le ha (Nat.pow_le_pow_right (n:=2) (by omega) (show 12<=i by omega))),Nat.testBit_lt_two_pow (Nat.lt_of_lt_of_le hb (Nat.pow_le_pow_right (n:=2) (by omega) (show 12<=i by omega)))]
theorem bo.hr{d:List bL}(hh:bo d n h):∃ws,pD h ws:=by
 obtain⟨l,f,h1,h2,h3⟩:=hh.ex;obtain⟨nm,c0,ws,g1,g2,g3,g4,g5⟩:=h1.cok.ws;have hc:=h1.cok.cod;have e1:(l.map fun x=>cw x.Code).map bt=l.map dO.Code:=by rw[List.map_map];apply List.map_congr_left;intro x hx;obtain⟨w,hw,_⟩:=hc x hx;simp[hw,IW]
 have e2:(l.map fun x=>cw x.Code).Perm ws:=by
  have:=g3.perm.map cw;rw[List.map_map,List.map_map]at this;have e3:ws.map (cw ∘ bt)=ws:=by have:(cw ∘ bt)=id:=funext fun w=>IW w;rw[this,List.map_id]
  rw[e3]at this;exact this
 refine⟨l.map fun x=>cw x.Code,⟨by rw[h2,e1],fun w hw=>?_,e2.nodup_iff.2 g1.nod,fun a ha b hb cZ=>?_,?_,?_,?_,?_⟩⟩;have:=g1.ok w (e2.mem_iff.1 hw);exact⟨this.2.1,by omega⟩;exact e2.mem_iff.2 (g2 a (e2.mem_iff.1 ha) b (e2.mem_iff.1 hb) cZ);rw[e2.length_eq];omega;rw[e2.length_eq];omega;have:=congrArg List.length h3;rw[yA]at this;have:=h1.len;omega;intro w hw;obtain⟨y,hy,rfl⟩:=List.mem_map.1 hw;obtain⟨w0,⟨x0,wQ,e0⟩,C4⟩:=h1.cok.top;have Vf:=g3.srt;rcases hl:l with _|⟨z,l'⟩;rw[hl]at wQ;cases wQ;simp only[zQ,List.getElem?_cons_zero,Option.getD_some];have hzm:z∈l:=by rw[hl];simp
 obtain⟨wz,ez,lz,_⟩:=hc z hzm;obtain⟨w0',QR,l0,_⟩:=hc x0 wQ;have e00:w0=w0':=by rw[<-IW w0,<-IW w0',<-e0,<-QR]
 have rY:cnt x0<=cnt z:=by rw[hl]at wQ Vf;rcases zI.1 wQ with rfl |h;exact zF _;exact(List.pairwise_cons.1 Vf).1 x0 h
 have hz:=C4 z hzm;rw[ez,IW]at hz;have:wz=w0:=Ed hz lz (by rw[e00];exact l0) (by
  have c1:cnt x0=(bl w0).length:=by rw[cnt,e0,IW]
  have c2:cnt z=(bl wz).length:=by rw[cnt,ez,IW]
  omega)
 rw[ez,IW,this];exact C4 y (by rw[hl]at hy;rw[hl];exact hy)
def wd(t:dH):Nat:=cw t.Code
def ph:List Nat->Bool
 |[]=>true|x::l=>!(l.any fun y=>Nat.beq x y)&&ph l
def okB(h:cY):Bool :=
 (h.Types.all fun t=>match t.Code with |[z]=>decide (0<z)&&decide (z<4611686018427387904)|_=>false) &&
 ph (h.Types.map wd)&&((h.Types.map wd).all fun a=>(h.Types.map wd).all fun b=>Nat.beq (a&&&b) 0||(h.Types.map wd).any fun c=>Nat.beq (a&&&b) c) &&
 Nat.ble h.Types.length 1000&&Nat.ble 1 h.Types.length&&Nat.ble h.Feats.length 1000&&((h.Types.map wd).all fun w=>Nat.beq ((((h.Types.map wd)[0]?).getD 0)&&&w) w)
theorem z9r:∀{l:List Nat},ph l=true->l.Nodup
 |[],_=>List.nodup_nil|x::l,h=>by simp only[ph,Bool.and_eq_true,Bool.not_eq_true',List.any_eq_false]at h;refine List.nodup_cons.2 ⟨fun hx=>?_,z9r h.2⟩;have:=h.1 x hx;simp at this
theorem ZW(hb:okB h=true):∃ws,pD h ws:=by
 simp only[okB,Bool.and_eq_true,List.all_eq_true,Nat.ble_eq]at hb;obtain⟨⟨⟨⟨⟨⟨h1,h2⟩,h3⟩,h4⟩,h5⟩,h6⟩,h7⟩:=hb;have Wr:∀t∈h.Types,t.Code=bt (wd t)/\wd t≠0/\wd t<4611686018427387904:=fun t ht=>by
  have:=h1 t ht;unfold wd;rcases hc:t.Code with _|⟨z,l⟩;rw[hc]at this;simp at this;cases l with
  |cons y l=>rw[hc]at this;simp at this|nil=>rw[hc]at this;simp at this;have e:cw [z]=z.toNat:=rfl;rw[e];exact⟨by rw[sR (by omega)];congr 1;omega,by omega,by omega⟩
 refine⟨h.Types.map wd,⟨?_,fun w hw=>?_,z9r h2,fun a ha b hb cZ=>?_,by rw[yA];exact h4,by rw[yA];exact h5,h6,fun w hw=>by have:=h7 w hw;rw[Nat.beq_eq]at this;exact this⟩⟩;rw[List.map_map];exact List.map_congr_left fun t ht=>(Wr t ht).1;obtain⟨t,ht,rfl⟩:=List.mem_map.1 hw;exact(Wr t ht).2;have:=h3 a ha b hb;rw[Bool.or_eq_true,Nat.beq_eq]at this;rcases this with h |h
 exact absurd h cZ;obtain⟨c,hc,e⟩:=List.any_eq_true.1 h;rw[Nat.beq_eq]at e;rw[e];exact hc
theorem preB(m:Nat):a8 (Rm (m+200)) (fun d=>a8 (P7 (m+200) d) fun r=>some (okB r.1))=some true:=by kernel_rfl
theorem Zi(m:Nat):ZM (m+200)=some true:=by kernel_rfl
theorem ex12(h:200<=n):ZM n=some true:=by
 have:=Zi (n-200)
 rwa [show n-200+200=n by omega]at this
theorem ZR(h:200<=n):∃g ws,Jh n=some g/\pD g ws:=by
 have:=preB (n-200);rw[show n-200+200=n by omega]at this;rcases e1:Rm n with _|d;rw[e1]at this;cases this;rw[e1,aO]at this;rcases e2:P7 n d with _|r;rw[e2]at this;cases this;rw[e2,aO]at this;obtain⟨ws,hw⟩:=ZW (Option.some.inj this);exact⟨⟨r.1.Types,r.1.Feats⟩,ws,by simp only[Jh,e1,e2,aO],hw⟩
theorem zay(d:List bL)(hn:5000<=n):∃g ws,Sv n d=some g/\pD g ws:=by
 obtain⟨g,ws,p1,p2⟩:=ZR (n:=n) (by omega);unfold Sv;by_cases hd:(d.length:Int)<=12;obtain⟨h,e,c1,c2,c3⟩:=z05 (d:=d) (by omega) hn;simp only[hd,yC,zC,c1,aO];by_cases he:e=0;subst he;obtain⟨ws',hw⟩:=(c2 rfl).hr;exact⟨⟨h.Types,h.Feats⟩,ws',rfl,hw⟩;have:(e==0)=false:=by simpa using he
 simp only[this,zD];exact⟨g,ws,p1,p2⟩;simp only[hd,yB,zD];exact⟨g,ws,p1,p2⟩
def E4(aA:Nat->Nat)(a:aK):aK:=⟨a.Feat,rI aA a.To⟩
def Jw(aA:Nat->Nat)(c:aS):aN:=⟨c.kind,c.arcs.map (E4 aA)⟩
def cG(cells:List aS)(aA:Nat->Nat):GFS:=⟨cells.map (Jw aA)⟩
variable{aA:Nat->Nat}
theorem WJ{l:List aK}(h:lU l):lU (l.map (E4 aA)):=by
 unfold lU at*;rw[List.pairwise_map];exact h.imp fun{a b} q=>q
theorem mO.gok{N D:Nat}{FB TB:Int}{cells:List aS}{d:Nat->Nat}(h:mO N D FB TB cells aA d):AE (cG cells aA):=fun x hx=>by
 obtain⟨c,hc,rfl⟩:=List.mem_map.1 hx;obtain⟨i,hi⟩:=List.getElem?_of_mem hc;have ha:=h.ar i c hi;refine⟨(h.kd i c hi).1,(WJ ha.up).dis,fun a hm=>?_⟩;obtain⟨b,hb,rfl⟩:=List.mem_map.1 hm;have h1:=ha.ok b hb;have h2:=h.rI (v:=b.To) h1.2.2;simp only[cG,yA,h.len];exact⟨h1.1,h2⟩
theorem z4e{f:GFS}{o t:List Int}{u:Int}(hu:∀a∈(nd f u).Arcs,a.To∈o):sU f (o++t) u=sU f o u:=by
 simp only[sU,aN.mk.injEq,true_and];refine List.map_congr_left fun a ha=>?_;simp only[sS,List.idxOf_append,hu a (J3.1 ha),if_true]
theorem mO.nd{N D:Nat}{FB TB:Int}{cells:List aS}{aA d:Nat->Nat}(h:mO N D FB TB cells aA d){v:Int}(hv:0<=v/\v<(N:Int)):Go.Proofs.nd (cG cells aA) v=Jw aA (pB cells v)/\nA (cG cells aA) v=(pB cells v).arcs.map (E4 aA):=by
 have hc:=h.cel hv;have e:Go.Proofs.nd (cG cells aA) v=Jw aA (pB cells v):=by simp only[Go.Proofs.nd,cG,List.getElem?_map,hc,zM,Option.getD_some]
 exact⟨e,by rw[nA,e];exact z5q (WJ (h.ar _ _ hc).up)⟩
theorem z5k(a b:List aN)(k:Int)(l:List aK):Eu (a++[⟨k,[]⟩]++b) a.length l=a++[⟨k,l⟩]++b:=by
 simp[Eu]
theorem z68{N D B:Nat}{FB TB:Int}{cells:List aS}{aA d:Nat->Nat}(h:mO N D FB TB cells aA d)(hB:tot cells<=B):∀(k:Nat)(s:List Int×List aN)(v:Int),Sn N B s->(0<=v/\v<(N:Int))->N-s.1.length<k->rI aA v ∉ s.1->
  vis cells aA k s v=((s.1.length:Int),dfs (cG cells aA) k s.1 (rI aA v),s.2++((dfs (cG cells aA) k s.1 (rI aA v)).drop s.1.length).map (sU (cG cells aA) (dfs (cG cells aA) k s.1 (rI aA v))))
 |0,s,v,hs,hv,hk,_=>by omega
 |k+1,s,v,hs,hv,hk,hm=>by
  have hg:=h.gok;have hr:=h.rI hv;have xZ:=hs.snoc hr hm (pB cells (rI aA v)).kind;have hc:=h.cel hr;have Wz:=h.ar _ _ hc;obtain⟨n1,n2⟩:=h.nd hr;have Ci:(cG cells aA).Nodes.length=N:=by simp[cG,h.len]
  have G3:=xZ.le;simp only[zU,zO,zS]at G3;have key:∀(l:List aK),(∀a∈l,0<=a.To/\a.To<(N:Int))->∀(s':List Int×List aN)(aX:List aK),Sn N B s'->s.1.length+1<=s'.1.length->
    ∃t,(l.map (E4 aA)).foldl (mM (dfs (cG cells aA) k)) s'.1=s'.1++t/\(∀a∈l,rI aA a.To∈s'.1++t)/\(∀u∈t,∀a∈(Go.Proofs.nd (cG cells aA) u).Arcs,a.To∈s'.1++t)/\
     vK (vis cells aA k) l s' aX=(aX++l.map (fun a=>sS (s'.1++t) (E4 aA a)),s'.1++t,s'.2++t.map (sU (cG cells aA) (s'.1++t))):=by
   intro l;induction l with
   |nil=>intro _ s' aX h1 h2;exact⟨[],by simp,by simp,by simp,by simp[vK]⟩|cons a l ih=>
    intro hl s' aX h1 h2;have ha:=hl a (by simp);have hra:=h.rI ha;rw[vK];by_cases jN:rI aA a.To∈s'.1;have e1:vis cells aA k s' a.To=((s'.1.idxOf (rI aA a.To):Int),s'):=by obtain⟨k',rfl⟩:=Nat.exists_eq_add_of_le' (show 1<=k by have:=h1.le;omega);rw[vis,if_pos jN]
    rw[e1];obtain⟨t,q1,q2,q3,q4⟩:=ih (fun b hb=>hl b (List.mem_cons_of_mem _ hb)) s' (aX++[⟨a.Feat,(s'.1.idxOf (rI aA a.To):Int)⟩]) h1 h2;refine⟨t,?_,?_,q3,?_⟩;rw[zQ,List.foldl_cons];have:mM (dfs (cG cells aA) k) s'.1 (E4 aA a)=s'.1:=by rw[mM,if_pos (by exact jN)]
    rw[this,q1];intro b hb;rcases zI.1 hb with rfl |hb;exact List.mem_append_left _ jN;exact q2 b hb;rw[q4];have:sS (s'.1++t) (E4 aA a)=⟨a.Feat,(s'.1.idxOf (rI aA a.To):Int)⟩:=by simp only[sS,E4,List.idxOf_append,jN,if_true]
    rw[zQ,this];simp;have e1:=z68 h hB k s' a.To h1 ha (by omega) jN;have v03:Seen (cG cells aA) s'.1:=⟨h1.nd,fun u hu=>by have:=h1.ing u hu;rw[uL,Ci];exact this⟩;obtain⟨d1,⟨t1,d2⟩,d3,d4⟩:=wl hg k s'.1 (rI aA a.To) v03 (by rw[uL,Ci];exact hra) jN (by rw[Ci];omega);obtain⟨v1,v2,v3⟩:=cq h hB k s' a.To h1 ha (by omega);rw[e1]at v1 v2 ⊢;simp only at v1 v2 ⊢;rw[d2]at v1 v2 ⊢;have Kn:∀u∈rI aA a.To::t1,∀b∈(Go.Proofs.nd (cG cells aA) u).Arcs,b.To∈s'.1++rI aA a.To::t1:=fun u hu b hb=>by by_cases B4:u∈s'.1;exfalso;have:=d1.nd;rw[d2,List.nodup_append]at this;exact this.2.2 u B4 u hu rfl;have:=d3 u (by rw[d2];exact List.mem_append_right _ hu) B4 b hb;rw[d2]at this;exact this
    rw[List.drop_left]at v1 ⊢;obtain⟨t,q1,q2,q3,q4⟩:=ih (fun b hb=>hl b (List.mem_cons_of_mem _ hb)) _ (aX++[⟨a.Feat,(s'.1.length:Int)⟩]) v1 (by simp only[zU,zO]at v2 ⊢;omega);simp only at q1 q2 q3 q4;refine⟨rI aA a.To::t1++t,?_,?_,?_,?_⟩;rw[zQ,List.foldl_cons];have:mM (dfs (cG cells aA) k) s'.1 (E4 aA a)=s'.1++rI aA a.To::t1:=by rw[mM,if_neg (by exact jN)];exact d2
    rw[this,q1];simp;intro b hb;rcases zI.1 hb with rfl |hb;simp;have:=q2 b hb;simpa using this;intro u hu b hb;rcases yD.1 hu with hu |hu;have:=Kn u hu b hb;rw[zT]at*;simp only[yD]at this ⊢;rcases this with h |h;exact .inl h;exact .inr (.inl h);have:=q3 u hu b hb;simpa using this;rw[q4];have e2:s'.1++(rI aA a.To::t1++t)=s'.1++rI aA a.To::t1++t:=by simp
    have e3:sS (s'.1++rI aA a.To::t1++t) (E4 aA a)=⟨a.Feat,(s'.1.length:Int)⟩:=by simp only[sS,E4,List.idxOf_append,yD,jN,zI,true_or,or_true,if_true,if_false,List.idxOf_cons_self];simp
    have e4:(rI aA a.To::t1).map (sU (cG cells aA) (s'.1++rI aA a.To::t1++t))=(rI aA a.To::t1).map (sU (cG cells aA) (s'.1++rI aA a.To::t1)):=List.map_congr_left fun u hu=>z4e (Kn u hu);rw[e2];refine Prod.ext ?_ (Prod.ext rfl ?_);show aX++[_]++_=aX++List.map _ (a::l);rw[zQ,e3,zT];rfl;show s'.2++_++_=s'.2++List.map _ (rI aA a.To::t1++t);rw[List.map_append,e4,zT]
  obtain⟨t,q1,q2,q3,q4⟩:=key _ (fun a ha=>(Wz.ok a ha).2.2) (s.1++[rI aA v],s.2++[⟨(pB cells (rI aA v)).kind,[]⟩]) [] xZ (by simp);simp only at q1 q2 q3 q4;have hd:dfs (cG cells aA) (k+1) s.1 (rI aA v)=s.1++rI aA v::t:=by rw[dfs,n2,q1];simp
  rw[hd,List.drop_left,vis,if_neg hm];simp only[q4];have b7:=hs.len;rw[<-b7,z5k,List.nil_append];have e1:s.1++rI aA v::t=s.1++[rI aA v]++t:=by simp
  rw[e1];have e2:sU (cG cells aA) (s.1++[rI aA v]++t) (rI aA v)=⟨(pB cells (rI aA v)).kind,(pB cells (rI aA v)).arcs.map fun a=>sS (s.1++[rI aA v]++t) (E4 aA a)⟩:=by rw[sU,n1,n2,List.map_map];rfl
  rw[zQ,e2];simp
theorem z88{N D:Nat}{FB TB:Int}{cells:List aS}{d:Nat->Nat}(h:mO N D FB TB cells aA d){n:Nat}(hn:N<n){v:Int}(hv:0<=v/\v<(N:Int)):NY n cells aA v=pG (cG cells aA) (rI aA v):=by
 have Ci:(cG cells aA).Nodes.length=N:=by simp[cG,h.len]
 have hr:=h.rI hv;have:=z68 h (zF _) n ([],[]) v (Sn.nil N _) hv (by simp;omega) (by simp);obtain⟨o1,o2⟩:=Gj h.gok (r:=rI aA v) (by rw[uL,Ci];exact hr);rw[NY,this];simp only[zS,List.drop_zero,List.nil_append,o2 n (by omega),pG]
theorem z65:∀{a b:List aK},lU a->lU b->(∀x,x∈a↔x∈b)->a=b
 |[],[],_,_,_=>rfl|[],y::b,_,_,h=>by have:=(h y).2 (by simp);cases this
 |x::a,[],_,_,h=>by have:=(h x).1 (by simp);cases this
 |x::a,y::b,ha,hb,h=>by
  have tM:=List.pairwise_cons.1 ha;have cU:=List.pairwise_cons.1 hb;have e:x=y:=by rcases zI.1 ((h x).1 (by simp))with e |e;exact e;rcases zI.1 ((h y).2 (by simp))with e' |e';exact e'.symm;have:=tM.1 y e';have:=cU.1 x e;omega
  subst e;rw[z65 tM.2 cU.2 fun z=>⟨fun hz=>by
   rcases zI.1 ((h z).1 (List.mem_cons_of_mem _ hz))with e |e;subst e;have:=tM.1 z hz;omega;exact e,fun hz=>by
   rcases zI.1 ((h z).2 (List.mem_cons_of_mem _ hz))with e |e;subst e;have:=cU.1 z hz;omega;exact e⟩]
structure QG(ws:List Nat)(L:List aN)(r:Nat->Nat)(g:GFS):Prop where
 len:g.Nodes.length=L.length
 rt:∀i,i<L.length->r i<L.length/\r (r i)=r i
 kd:∀i x,g.Nodes[i]? = some x->r i=i->(0<=x.Typex/\x.Typex<(ws.length:Int))/\∀k,(eW ws x.Typex).testBit k=true↔∀j c,L[j]? = some c->r j=i->(eW ws c.Typex).testBit k=true
 ds:∀i x,g.Nodes[i]? = some x->r i=i->mI x.Arcs
 cov:∀j c a,L[j]? = some c->a∈c.Arcs->∃x b,g.Nodes[r j]? = some x/\b∈x.Arcs/\b.Feat=a.Feat/\b.To=(r a.To.toNat:Int)
 snd:∀i x b,g.Nodes[i]? = some x->r i=i->b∈x.Arcs->∃j c a,L[j]? = some c/\r j=i/\a∈c.Arcs/\b.Feat=a.Feat/\b.To=(r a.To.toNat:Int)
variable{ws:List Nat}
theorem zan(hn:ws.Nodup){s t:Int}(hs:0<=s/\s<(ws.length:Int))(ht:0<=t/\t<(ws.length:Int))(h:eW ws s=eW ws t):s=t:=by
 have h1:=M8 hs;have h2:=M8 ht;rw[<-h]at h2;obtain⟨a1,b1⟩:=zG.1 h1;obtain⟨a2,b2⟩:=zG.1 h2;have:=(List.getElem_inj (h₀:=a1) (h₁:=a2) hn).1 (by rw[b1,b2]);omega
def InR(N:Nat)(r:Nat->Nat)(v:Int):Prop:=∃i:Nat,v=(i:Int)/\i<N/\r i=i
theorem QG.sim(hn:ws.Nodup){L:List aN}(hL:∀(j:Nat)(c:aN)(a:aK),L[j]? = some c->a∈c.Arcs->a.To.toNat<L.length){r r':Nat->Nat}{g g':GFS}(h:QG ws L r g)(h':QG ws L r' g')(he:∀i j,i<L.length->j<L.length->(r i=r j↔r' i=r' j)):
  sC g g' (fun v=>(r' v.toNat:Int)) (InR L.length r):=by
 have node:∀{i:Nat},i<L.length->∃x,g.Nodes[i]? = some x/\nd g (i:Int)=x:=fun{i} hi=>by
  have:i<g.Nodes.length:=by rw[h.len];exact hi
  exact⟨_,List.getElem?_eq_getElem this,by simp[nd,this]⟩
 have node':∀{i:Nat},i<L.length->∃x,g'.Nodes[i]? = some x/\nd g' (i:Int)=x:=fun{i} hi=>by
  have:i<g'.Nodes.length:=by rw[h'.len];exact hi
  exact⟨_,List.getElem?_eq_getElem this,by simp[nd,this]⟩
 have memb:∀{j:Nat}{c:aN},L[j]? = some c->j<L.length:=fun hj=>(zG.1 hj).1;have mem_iff:∀{i j:Nat},i<L.length->j<L.length->r i=i->(r j=i↔r' j=r' i):=fun{i j} hi hj hr=>by rw[<-he j i hj hi,hr]
 refine⟨?_,?_,?_,?_⟩;rintro v ⟨i,rfl,hi,hr⟩ a ha;rw[J3]at ha;obtain⟨x,hx,e⟩:=node hi;rw[e]at ha;obtain⟨j,c,b,q1,q2,q3,q4,q5⟩:=h.snd i x a hx hr ha;have:=h.rt _ (hL j c b q1 q3);exact⟨r b.To.toNat,q5,this.1,this.2⟩;rintro u v ⟨i,rfl,hi,hr⟩ ⟨j,rfl,hj,hs⟩ e;simp only[zZ]at e;have:=(he i j hi hj).2 (by omega);omega;rintro v ⟨i,rfl,hi,hr⟩;obtain⟨x,hx,e⟩:=node hi;have jA:=h'.rt i hi;obtain⟨y,hy,e'⟩:=node' jA.1;simp only[zZ];rw[e,e'];obtain⟨k1,k2⟩:=h.kd i x hx hr;obtain⟨k3,k4⟩:=h'.kd _ y hy jA.2;refine zan hn k3 k1 (Nat.eq_of_testBit_eq fun k=>?_);rw[Bool.eq_iff_iff,k2,k4];exact⟨fun q j c hj UD=>q j c hj ((mem_iff hi (memb hj) hr).1 UD),fun q j c hj UD=>q j c hj ((mem_iff hi (memb hj) hr).2 UD)⟩;rintro v ⟨i,rfl,hi,hr⟩;obtain⟨x,hx,e⟩:=node hi;have jA:=h'.rt i hi;obtain⟨y,hy,e'⟩:=node' jA.1;simp only[zZ];have up1:lU (nA g' ((r' i:Nat):Int)):=by rw[nA,e'];exact Ge (h'.ds _ y hy jA.2)
 have up2:lU ((nA g (i:Int)).map fun a=>(⟨a.Feat,(r' a.To.toNat:Int)⟩:aK)):=by
  have:lU (nA g (i:Int)):=by rw[nA,e];exact Ge (h.ds _ x hx hr)
  unfold lU at*;rw[List.pairwise_map];exact this.imp fun{a b} q=>q
 refine z65 up1 up2 fun b=>?_;rw[J3,e',List.mem_map];constructor;intro hb;obtain⟨j,c,a,q1,q2,q3,q4,q5⟩:=h'.snd _ y b hy jA.2 hb;have Kl:=(mem_iff hi (memb q1) hr).2 q2;obtain⟨x2,b2,p1,p2,p3,p4⟩:=h.cov j c a q1 q3;rw[Kl,hx]at p1;cases p1;refine⟨b2,by rw[J3,e];exact p2,?_⟩;have ht:=hL j c a q1 q3;have h1:=h.rt _ ht;have:r' (r a.To.toNat)=r' a.To.toNat:=(he _ _ h1.1 ht).1 h1.2;rw[p4,zZ,this,<-q5,p3,<-q4];rintro⟨b2,qX,rfl⟩;rw[J3,e]at qX;obtain⟨j,c,a,q1,q2,q3,q4,q5⟩:=h.snd i x b2 hx hr qX;have Kl:=(mem_iff hi (memb q1) hr).1 q2;obtain⟨y2,b3,p1,p2,p3,p4⟩:=h'.cov j c a q1 q3;rw[Kl,hy]at p1;cases p1;have ht:=hL j c a q1 q3;have h1:=h.rt _ ht;have e4:r' (r a.To.toNat)=r' a.To.toNat:=(he _ _ h1.1 ht).1 h1.2;have:(⟨b2.Feat,(r' b2.To.toNat:Int)⟩:aK)=b3:=by cases b3;simp only[aK.mk.injEq];simp only at p3 p4;rw[q5,zZ,e4];exact⟨by rw[q4,p3],p4.symm⟩
 rw[this];exact p2
theorem QG.read(hn:ws.Nodup){L:List aN}(hL:∀(j:Nat)(c:aN)(a:aK),L[j]? = some c->a∈c.Arcs->a.To.toNat<L.length){r r':Nat->Nat}{g g':GFS}(h:QG ws L r g)(h':QG ws L r' g')(hg:AE g)(Q4:AE g')(he:∀i j,i<L.length->j<L.length->(r i=r j↔r' i=r' j)){i:Nat}(hi:i<L.length):
  pG g' ((r' i:Nat):Int)=pG g ((r i:Nat):Int):=by
 have h1:=h.rt i hi;have h2:=h'.rt i hi;have e:r' (r i)=r' i:=(he _ _ h1.1 hi).1 h1.2;have:=(h.sim hn hL h' he).canon hg Q4 (r:=((r i:Nat):Int)) ⟨by omega,by rw[h.len];omega⟩ ⟨r i,rfl,h1.1,h1.2⟩ (by simp only[zZ,e];exact⟨by omega,by rw[h'.len];omega⟩);simp only[zZ,e]at this;exact this.2
def Ky(N:Nat)(r:Nat->Nat)(W:List (Int×Int))(x y:Nat):Prop:=∀q:Nat->Nat,(∀i j,i<N->j<N->r i=r j->q i=q j)->(∀p∈W,q p.1.toNat=q p.2.toNat)->q x=q y
structure B8(N:Nat)(ws:List Nat)(L:List aN):Prop where
 len:L.length=N
 ar:∀(j:Nat)(c:aN)(a:aK),L[j]? = some c->a∈c.Arcs->0<=a.To/\a.To<(N:Int)
structure TC(ws:List Nat)(N:Nat)(L:List aN)(W:List (Int×Int))(cells:List aS)(aA:Nat->Nat):Prop where
 cov:∀(j:Nat)(c:aN)(a:aK),L[j]? = some c->a∈c.Arcs->∃b∈(celN cells (aA j)).arcs,b.Feat=a.Feat/\Ky N aA W b.To.toNat a.To.toNat
 snd:∀(i:Nat)(b:aK),i<N->aA i=i->b∈(celN cells i).arcs->∃(j:Nat)(c:aN),L[j]? = some c/\aA j=i/\b∈c.Arcs
 kd:∀(i:Nat),i<N->aA i=i->∀k:Nat,(eW ws (celN cells i).kind).testBit k=true↔∀(j:Nat)(c:aN),L[j]? = some c->aA j=i->(eW ws c.Typex).testBit k=true
def I5(L:List aN)(q:Nat->Nat):Prop:=∀(i j:Nat)(c e:aN)(a b:aK),L[i]? = some c->L[j]? = some e->q i=q j->a∈c.Arcs->b∈e.Arcs->a.Feat=b.Feat->q a.To.toNat=q b.To.toNat
def W3(ws:List Nat)(L:List aN)(q:Nat->Nat):Prop:=∃i,i<L.length/\∀k:Nat,∃(j:Nat)(c:aN),L[j]? = some c/\q j=q i/\(eW ws c.Typex).testBit k=false
structure VW(N:Nat)(W:List (Int×Int))(aA q:Nat->Nat):Prop where
 r:∀i j,i<N->j<N->aA i=aA j->q i=q j
 w:∀p∈W,q p.1.toNat=q p.2.toNat
variable{c:List aS}
variable{m:Nat}
variable{n:Nat}
theorem qxv(hm:m<c.length)(hn:n<c.length)(vY:m≠n)(t:Int)(o:List aK)(i:Nat):
  celN (xO c m n t o) i=if i=n then⟨(m:Int),0,[]⟩else if i=m then⟨-1,t,o⟩else celN c i:=by
 simp only[celN,xO,List.getElem?_set,List.length_set];by_cases e:i=n;subst e;simp[hn];rw[if_neg (fun q=>e q.symm),if_neg e];by_cases e2:i=m;subst e2;simp[hm];rw[if_neg (fun q=>e2 q.symm),if_neg e2]
variable{ws:List Nat}
variable{N:Nat}
variable{L:List aN}
variable{W:List (Int×Int)}
variable{p:Int×Int}
variable{aA:Nat->Nat}
theorem TC.skip(h:TC ws N L (p::W) c aA)(hp:Nw N p)(e:aA p.1.toNat=aA p.2.toNat):TC ws N L W c aA where
 cov j x a hj ha:=by obtain⟨b,h1,h2,h3⟩:=h.cov j x a hj ha;refine⟨b,h1,h2,fun q q1 q2=>h3 q q1 fun z hz=>?_⟩;rcases zI.1 hz with rfl |hz;exact q1 _ _ (by have:=hp.1;omega) (by have:=hp.2;omega) e;exact q2 z hz
 snd:=h.snd
 kd:=h.kd
structure Mg(N:Nat)(p:Int×Int)(c:List aS)(aA:Nat->Nat)(m n:Nat):Prop where
 len:c.length=N
 hm:m<N
 hn:n<N
 em:aA m=m
 en:aA n=n
 ne:m≠n
 lt:∀i,i<N->aA i<N
 idem:∀i,i<N->aA (aA i)=aA i
 pi:Nw N p
 pp:(aA p.1.toNat=m/\aA p.2.toNat=n)\/(aA p.1.toNat=n/\aA p.2.toNat=m)
 dm:mI (celN c m).arcs
variable{D:Nat}
variable{FB:Int}
variable{d:Nat->Nat}
theorem Rnd.mg{TB:Int}(hr:Rnd N D FB TB (p::W) c aA d)(cZ:aA p.1.toNat≠aA p.2.toNat):Mg N p c aA (aA p.1.toNat) (aA p.2.toNat):=
 have T:=hr.two
 ⟨hr.hp.len,T.hm,T.hn,T.em,T.en,cZ,hr.hp.rok.lt,hr.hp.rok.idem,hr.wi p (by simp),.inl ⟨rfl,rfl⟩,T.am.up.dis⟩
theorem TC.mrg(hL:B8 N ws L){W':List (Int×Int)}(T:Mg N p c aA m n)(h:TC ws N L (p::W) c aA){t:Int}{o:List aK}
  (ht:eW ws t=eW ws (celN c m).kind&&&eW ws (celN c n).kind) (hM:o.Perm ((celN c m).arcs++nB (celN c m).arcs (celN c n).arcs)) (w1:∀z∈prs (celN c m).arcs (celN c n).arcs,z∈W') (w2:∀z∈W,z∈W'):
  TC ws N L W' (xO c m n t o) (gS aA m n):=by
 obtain⟨HI,B6⟩:=T.pi;have cZ:=T.ne;have b7:=T.len;have hmc:m<c.length:=by have:=T.hm;omega
 have v7:n<c.length:=by have:=T.hn;omega
 have A7:=qxv hmc v7 cZ t o;have ida:∀j,j<N->aA (aA j)=aA j:=T.idem;have jlt:∀{j:Nat}{x:aN},L[j]? = some x->j<N:=fun hj=>by have:=(zG.1 hj).1;rw[hL.len]at this;exact this
 have mono:∀i j,aA i=aA j->gS aA m n i=gS aA m n j:=fun i j e=>ja e;have lnk:∀{x y:Nat},Ky N aA (p::W) x y->Ky N (gS aA m n) W' x y:=fun{x y} hl q q1 q2=>by
  refine hl q (fun i j hi hj e=>q1 i j hi hj (mono i j e)) fun z hz=>?_;rcases zI.1 hz with rfl |hz
  refine q1 _ _ (by omega) (by omega) ?_;unfold gS;rcases T.pp with⟨e1,e2⟩|⟨e1,e2⟩;rw[e1,e2,if_neg cZ,if_pos rfl];rw[e1,e2,if_neg cZ,if_pos rfl];exact q2 z (w2 z hz)
 refine⟨fun j x a hj ha=>?_,fun i b hi rX hb=>?_,fun i hi rX k=>?_⟩;obtain⟨b,h1,h2,h3⟩:=h.cov j x a hj ha;by_cases en:aA j=n;have e1:gS aA m n j=m:=by unfold gS;rw[if_pos en]
 rw[e1,A7,if_neg cZ,if_pos rfl];rw[en]at h1;show ∃b∈o,_;by_cases hf:xP (celN c m).arcs b.Feat=true;obtain⟨z,hz,ez⟩:=MG.1 hf;refine⟨z,hM.mem_iff.2 (List.mem_append_left _ hz),by omega,fun q q1 q2=>?_⟩;have hpz:(z.To,b.To)∈prs (celN c m).arcs (celN c n).arcs:=List.mem_filterMap.2 ⟨b,h1,by rw[z2y T.dm hz ez];rfl⟩;have:=q2 (z.To,b.To) (w1 _ hpz);rw[this];exact lnk h3 q q1 q2;refine⟨b,hM.mem_iff.2 (List.mem_append_right _ (List.mem_filter.2 ⟨h1,by simpa using hf⟩)),h2,lnk h3⟩;have e1:gS aA m n j=aA j:=by unfold gS;rw[if_neg en]
 rw[e1,A7,if_neg en];by_cases em:aA j=m;rw[if_pos em];rw[em]at h1;exact⟨b,hM.mem_iff.2 (List.mem_append_left _ h1),h2,lnk h3⟩;rw[if_neg em];exact⟨b,h1,h2,lnk h3⟩;by_cases ein:i=n;subst ein
 rw[A7,if_pos rfl]at hb;cases hb;rw[A7,if_neg ein]at hb;by_cases eim:i=m;subst eim;rw[if_pos rfl]at hb;rcases yD.1 (hM.mem_iff.1 hb)with hb |hb;obtain⟨j,x,q1,q2,q3⟩:=h.snd _ b T.hm T.em hb;exact⟨j,x,q1,by unfold gS;rw[q2,if_neg cZ],q3⟩;obtain⟨j,x,q1,q2,q3⟩:=h.snd _ b T.hn T.en (List.mem_filter.1 hb).1;exact⟨j,x,q1,by unfold gS;rw[q2,if_pos rfl],q3⟩;rw[if_neg eim]at hb;have Bd:aA i=i:=by unfold gS at rX;split at rX;exact absurd rX.symm eim;exact rX
 obtain⟨j,x,q1,q2,q3⟩:=h.snd i b hi Bd hb;exact⟨j,x,q1,by unfold gS;rw[q2,if_neg ein],q3⟩;by_cases ein:i=n;subst ein
 unfold gS at rX;rw[T.en,if_pos rfl]at rX;exact absurd rX cZ;rw[A7,if_neg ein];by_cases eim:i=m;subst eim;rw[if_pos rfl];show(eW ws t).testBit k=true↔_;rw[ht,Nat.testBit_and,Bool.and_eq_true,h.kd _ T.hm T.em,h.kd _ T.hn T.en];constructor;rintro⟨g1,g2⟩ j x hj C6;unfold gS at C6;by_cases e:aA j=n;exact g2 j x hj e;rw[if_neg e]at C6;exact g1 j x hj C6;intro g;exact⟨fun j x hj e=>g j x hj (by unfold gS;rw[e,if_neg cZ]),fun j x hj e=>g j x hj (by unfold gS;rw[if_pos e])⟩;rw[if_neg eim];have Bd:aA i=i:=by unfold gS at rX;split at rX;exact absurd rX.symm eim;exact rX
 rw[h.kd i hi Bd];constructor;intro g j x hj e;refine g j x hj ?_;unfold gS at e;split at e;exact absurd e.symm eim;exact e;intro g j x hj e;exact g j x hj (by unfold gS;rw[e,if_neg ein])
theorem VW.mrg(hL:B8 N ws L){W':List (Int×Int)}{q:Nat->Nat}(T:Mg N p c aA m n)(h:TC ws N L (p::W) c aA)(hq:I5 L q)(hu:VW N (p::W) aA q)(w:∀z∈W',z∈prs (celN c m).arcs (celN c n).arcs\/z∈W):
  q m=q n/\VW N W' (gS aA m n) q:=by
 obtain⟨HI,B6⟩:=T.pi;have Vm:=hu.w p (by simp);have e3:q m=q n:=by rcases T.pp with⟨e1,e2⟩|⟨e1,e2⟩;have a1:q m=q p.1.toNat:=hu.r _ _ T.hm (by omega) (by rw[T.em,e1]);have a2:q n=q p.2.toNat:=hu.r _ _ T.hn (by omega) (by rw[T.en,e2]);rw[a1,a2,Vm];have a1:q n=q p.1.toNat:=hu.r _ _ T.hn (by omega) (by rw[T.en,e1]);have a2:q m=q p.2.toNat:=hu.r _ _ T.hm (by omega) (by rw[T.em,e2]);rw[a1,a2,Vm]
 refine⟨e3,fun i j hi hj e=>?_,fun z hz=>?_⟩
 ·have ri:q (aA i)=q i:=hu.r _ _ (T.lt i hi) hi (T.idem i hi);have rj:q (aA j)=q j:=hu.r _ _ (T.lt j hj) hj (T.idem j hj);rw[<-ri,<-rj];unfold gS at e;split at e
  ·next h1=>
   split at e
   ·next h2=>rw[h1,h2]
   ·next h2=>rw[h1,<-e3,e]
  ·next h1=>
   split at e
   ·next h2=>rw[h2,<-e3,e]
   ·next h2=>rw[e]
 rcases w z hz with hz |hz;obtain⟨x,hx,y,hy,hf,rfl⟩:=af hz;obtain⟨j,xc,q1,q2,q3⟩:=h.snd _ x T.hm T.em hx;obtain⟨j',yc,r1,r2,r3⟩:=h.snd _ y T.hn T.en hy;have jl:=(zG.1 q1).1;have jl':=(zG.1 r1).1;rw[hL.len]at jl jl';refine hq j j' xc yc x y q1 r1 ?_ q3 r3 hf;have a1:q j=q m:=hu.r _ _ jl T.hm (by rw[T.em,q2]);have a2:q j'=q n:=hu.r _ _ jl' T.hn (by rw[T.en,r2]);rw[a1,a2,e3];exact hu.w z (List.mem_cons_of_mem _ hz)
structure qf(ws:List Nat)(mt:Int->Int->Option Int):Prop where
 no:∀s t,(0<=s/\s<(ws.length:Int))->(0<=t/\t<(ws.length:Int))->mt s t=none->eW ws s&&&eW ws t=0
 yes:∀s t r,(0<=s/\s<(ws.length:Int))->(0<=t/\t<(ws.length:Int))->mt s t=some r->(0<=r/\r<(ws.length:Int))/\eW ws r=eW ws s&&&eW ws t
theorem dj{ws:List Nat}{mt:Int->Int->Option Int}(DK:qf ws mt){N:Nat}{FB:Int}{L:List aN}(hL:B8 N ws L):∀(k:Nat)(W:List (Int×Int))(c:List aS)(aA d:Nat->Nat)(D:Nat),Rnd N D FB ws.length W c aA d->TC ws N L W c aA->W.length+tot c<k->
  ((lY mt k W c aA d).1=true->TC ws N L [] (lY mt k W c aA d).2.1 (lY mt k W c aA d).2.2.1)/\
  ∀q,I5 L q->VW N W aA q->((lY mt k W c aA d).1=true->VW N [] (lY mt k W c aA d).2.2.1 q)/\((lY mt k W c aA d).1=false->W3 ws L q)
 |0,W,c,aA,d,D,hr,h,hk=>by omega
 |k+1,[],c,aA,d,D,hr,h,hk=>⟨fun _=>h,fun q _ hu=>⟨fun _=>hu,fun e=>(by cases e)⟩⟩|k+1,p::W,c,aA,d,D,hr,h,hk=>by
  simp only[zO]at hk;unfold lY;by_cases e:aA p.1.toNat=aA p.2.toNat;rw[if_pos e];obtain⟨g1,g2⟩:=dj DK hL k W c aA d D hr.skip (h.skip (hr.wi p (by simp)) e) (by omega);exact⟨g1,fun q hq hu=>g2 q hq ⟨hu.r,fun z hz=>hu.w z (List.mem_cons_of_mem _ hz)⟩⟩;rw[if_neg e];have T:=hr.two;cases hm:mt (celN c (aA p.1.toNat)).kind (celN c (aA p.2.toNat)).kind with
  |none=>
   refine⟨fun q=>(by cases q),fun q hq hu=>⟨fun q=>(by cases q),fun _=>?_⟩⟩;obtain⟨e3,_⟩:=hu.mrg hL (hr.mg e) h hq (W':=W) fun z hz=>.inr hz;have h0:=DK.no _ _ T.km T.kn hm;refine⟨aA p.1.toNat,by rw[hL.len];exact T.hm,fun b=>?_⟩;have hb:(eW ws (celN c (aA p.1.toNat)).kind).testBit b=false\/(eW ws (celN c (aA p.2.toNat)).kind).testBit b=false:=by have:=congrArg (fun x=>x.testBit b) h0;simp only[Nat.testBit_and,Nat.zero_testBit,Bool.and_eq_false_iff]at this;exact this
   have find:∀i,i<N->aA i=i->(eW ws (celN c i).kind).testBit b=false->∃(j:Nat)(x:aN),L[j]? = some x/\aA j=i/\(eW ws x.Typex).testBit b=false:=fun i hi rX hf=>by
    refine Classical.byContradiction fun eE=>?_;have:=(h.kd i hi rX b).2 fun j x hj C6=>by rcases hx:(eW ws x.Typex).testBit b with _|_;exact absurd ⟨j,x,hj,C6,hx⟩ eE;rfl
    rw[hf]at this;cases this
   rcases hb with hb |hb;obtain⟨j,x,q1,q2,q3⟩:=find _ T.hm T.em hb;have jl:=(zG.1 q1).1;rw[hL.len]at jl;exact⟨j,x,q1,hu.r _ _ jl T.hm (by rw[T.em,q2]),q3⟩;obtain⟨j,x,q1,q2,q3⟩:=find _ T.hn T.en hb;have jl:=(zG.1 q1).1;rw[hL.len]at jl;exact⟨j,x,q1,by rw[e3];exact hu.r _ _ jl T.hn (by rw[T.en,q2]),q3⟩
  |some t=>obtain⟨ht,hc⟩:=DK.yes _ _ _ T.km T.kn hm;have hT:=T.tot e t W;obtain⟨g1,g2⟩:=dj DK hL k _ _ _ (GO aA d (aA p.2.toNat)) (D+1) (hr.next e ht) (h.mrg hL (hr.mg e) hc (YM _ _ T.am.up T.an.up).pm (fun z hz=>List.mem_append_left _ (List.mem_reverse.2 hz)) fun z hz=>List.mem_append_right _ hz) (by omega);exact⟨g1,fun q hq hu=>g2 q hq (hu.mrg hL (hr.mg e) h hq fun z hz=>by rcases yD.1 hz with hz |hz;exact .inl (List.mem_reverse.1 hz);exact .inr hz).2⟩
theorem TC.qg(hL:B8 N ws L)(hp:mO N D FB ws.length c aA d)(h:TC ws N L [] c aA):QG ws L aA (cG c aA):=by
 have hN:=hL.len;have eR:=hp.len;have node:∀{i:Nat}{x:aN},(cG c aA).Nodes[i]? = some x->i<N/\c[i]? = some (celN c i)/\x=Jw aA (celN c i):=fun{i x} hx=>by
  simp only[cG,List.getElem?_map]at hx;rcases hc:c[i]? with _|y;rw[hc]at hx;cases hx;have hi:i<N:=by have:=(zG.1 hc).1;omega
  have:=hp.celN hi;rw[hc]at this;cases this;rw[hc]at hx;exact⟨hi,rfl,(Option.some.inj hx).symm⟩
 refine⟨by simp[cG,eR,hN],fun i hi=>?_,fun i x hx hr=>?_,fun i x hx hr=>?_,fun j y a hj ha=>?_,fun i x b hx hr hb=>?_⟩;rw[hN]at hi ⊢;exact⟨hp.rok.lt i hi,hp.rok.idem i hi⟩;obtain⟨hi,hc,rfl⟩:=node hx;exact⟨hp.kd i _ hc,h.kd i hi hr⟩;obtain⟨hi,hc,rfl⟩:=node hx;exact(WJ (hp.ar i _ hc).up).dis;obtain⟨b,h1,h2,h3⟩:=h.cov j y a hj ha;have jl:=(zG.1 hj).1;rw[hN]at jl;have hc:=hp.celN (hp.rok.lt j jl);refine⟨Jw aA (celN c (aA j)),E4 aA b,by simp only[cG,List.getElem?_map,hc,zM],List.mem_map_of_mem h1,h2,?_⟩;simp only[E4,rI];rw[h3 aA (fun _ _ _ _ e=>e) (fun _ hz=>by cases hz)];obtain⟨hi,hc,rfl⟩:=node hx;obtain⟨b0,Wy,rfl⟩:=List.mem_map.1 hb;obtain⟨j,y,q1,q2,q3⟩:=h.snd i b0 hi hr Wy;exact⟨j,y,b0,q1,q2,q3,rfl,rfl⟩
theorem TC.clo(hL:B8 N ws L)(hp:mO N D FB ws.length c aA d)(h:TC ws N L [] c aA):I5 L aA:=fun i j x y a b hi hj e ha hb hf=>by
 obtain⟨a',p1,p2,p3⟩:=h.cov i x a hi ha;obtain⟨b',q1,q2,q3⟩:=h.cov j y b hj hb;have il:=(zG.1 hi).1;rw[hL.len]at il;have hc:=hp.celN (hp.rok.lt i il);rw[<-e]at q1;have hd:=(hp.ar _ _ hc).up.dis;have:a'=b':=hd.eq a' p1 b' q1 (by omega);subst this;have e1:=p3 aA (fun _ _ _ _ e=>e) (fun _ hz=>by cases hz);have e2:=q3 aA (fun _ _ _ _ e=>e) (fun _ hz=>by cases hz);omega
theorem TC.good(hL:B8 N ws L)(hw:∀w∈ws,w≠0)(hp:mO N D FB ws.length c aA d)(h:TC ws N L [] c aA):¬ W3 ws L aA:=fun⟨i,hi,hb⟩=>by
 rw[hL.len]at hi;have hr:=hp.rok.lt i hi;have KC:=hp.rok.idem i hi;have hc:=hp.celN hr;have hk:=hp.kd _ _ hc;have cZ:=hw _ (zX (M8 hk));obtain⟨k,DM⟩:=Nat.exists_testBit_of_ne_zero cZ;obtain⟨j,x,q1,q2,q3⟩:=hb k;have:=(h.kd _ hr KC k).1 DM j x q1 q2;rw[q3]at this;cases this
def D1(k:Nat)(x:aN):aN:=⟨x.Typex,x.Arcs.map (IM k)⟩
theorem z21{p1 p2:List aN}{z:Nat}{l10:List aN}{rc:Int->List aN->Option (List aN)}{x:aN}(hz:p2[z]? = some x)(hx:x.Arcs.length<=12)(hp:p1.length<=1000)(tC:∀a∈x.Arcs,0<=a.To/\a.To<1000):∀(m i:Nat),x.Arcs.length-i<m->i<=x.Arcs.length->
  Hy p1 p2 (z:Int) l10 rc x m (i:Int) ((x.Arcs.take i).map (IM p1.length))=Ri (z:Int) l10 rc x (x.Arcs.map (IM p1.length))
 |0,i,hm,_=>by omega
 |m+1,i,hm,hi=>by
  unfold Hy;by_cases aE:i<x.Arcs.length;obtain⟨a,ha,xD⟩:=eM aE;simp only[cK,hz,aO,hH aE,zC,ha,iU aE (show x.Arcs.length<=9223372036854775807 by omega)];rw[fG (by simp only[yA,List.length_take];omega)];have hw:=Lm (tC a xD) (k:=p1.length) (by omega);rw[hw];have:=z21 (l10:=l10) (rc:=rc) hz hx hp tC m (i+1) (by omega) (by omega);rw[j9 ha,List.map_append]at this;exact this;have:i=x.Arcs.length:=by omega
  subst this;simp only[cK,hz,aO,iF aE,zD,List.take_length]
theorem z1z{p1 p2:List aN}(hp:p1.length<=1000)(B6:p2.length<=1000)(hx:∀x∈p2,x.Arcs.length<=12/\∀a∈x.Arcs,0<=a.To/\a.To<1000){n:Nat}(hn:20<=n):∀(m i:Nat),p2.length-i<m->i<=p2.length->
  P4 p1 p2 n m (i:Int) (p1++(p2.take i).map (D1 p1.length))=some (p1++p2.map (D1 p1.length))
 |0,i,hm,_=>by omega
 |m+1,i,hm,hi=>by
  unfold P4;by_cases aE:i<p2.length;obtain⟨x,I?,gM⟩:=eM aE;obtain⟨h1,h2⟩:=hx x gM;simp only[hH aE,zC,cK,I?,aO];have:=z21 (l10:=p1++(p2.take i).map (D1 p1.length)) (rc:=P4 p1 p2 n m) I? h1 hp h2 n 0 (by omega) (by omega);rw[zV,List.take_zero,List.map_nil]at this;rw[this,Ri,fG (by simp only[zU,yA,List.length_take];omega),iU aE (by omega)];have ih:=z1z hp B6 hx hn m (i+1) (by omega) (by omega);rw[j9 I?,List.map_append,<-zT]at ih;exact ih;have:i=p2.length:=by omega
  subst this;simp only[iF aE,zD,vk,List.take_length]
variable{n:Nat}
theorem zak{p1 p2:List aN}(hp:p1.length<=1000)(B6:p2.length<=1000)(hx:∀x∈p2,x.Arcs.length<=12/\∀a∈x.Arcs,0<=a.To/\a.To<1000)(hn:2000<=n):Pu n p1 p2=some (p1++p2.map (D1 p1.length)):=by
 have:=z1z hp B6 hx (n:=n) (by omega) n 0 (by omega) (by omega);rw[zV,List.take_zero,List.map_nil,List.append_nil]at this;rw[Pu,fG (by omega),this]
theorem z5g{H:cY}{p1:gK}{r3:List aN}(h3:r3.length<=2000):∀(m i:Nat)(l:List Int),r3.length-i<m->i<=r3.length->l.length=i->
  Hx p1 r3 m (i:Int) l=Rh p1 r3 (l++uR i (r3.length-i))
 |0,i,l,hm,_,_=>by omega
 |m+1,i,l,hm,hi,hl=>by
  unfold Hx;by_cases aE:i<r3.length;simp only[hH aE,zC,iU aE (show r3.length<=9223372036854775807 by omega)];rw[fG (by omega),z5g (H:=H) h3 m (i+1) (l++[(i:Int)]) (by omega) (by omega) (by simp[hl])];congr 1;have:uR i (r3.length-i)=(i:Int)::uR (i+1) (r3.length-(i+1)):=by obtain⟨k,hk⟩:∃k,r3.length-i=k+1:=⟨r3.length-i-1,by omega⟩;rw[hk,show r3.length-(i+1)=k by omega];simp only[uR,List.range_succ_eq_map,zQ,List.map_map,Nat.add_zero,List.cons.injEq,true_and];exact List.map_congr_left fun x _=>by simp only[Function.comp];omega
  rw[this];simp;have:r3.length-i=0:=by omega
  simp only[iF aE,zD,this];simp[uR]
theorem z8e{p1:gK}{f:GFS}(hc:p1.Class.length=p1.Cells.length)(hp:p1.Cells.length<=900)(B6:f.Nodes.length<=100)(hx:∀x∈f.Nodes,x.Arcs.length<=12/\∀a∈x.Arcs,0<=a.To/\a.To<1000)(hn:3000<=n):
  Ps n p1 f=some (⟨p1.H,p1.Cells++f.Nodes.map (D1 p1.Cells.length),p1.Class++uR p1.Cells.length f.Nodes.length,p1.Marks⟩,(p1.Cells.length:Int)):=by
 simp only[Ps,zak (p1:=p1.Cells) (p2:=f.Nodes) (by omega) (by omega) hx (n:=n) (by omega),aO];rw[fG (by omega),z5g (H:=p1.H) (by simp only[zU,yA];omega) n p1.Cells.length p1.Class (by simp only[zU,yA];omega) (by simp only[zU,yA];omega) hc,Rh];simp only[zU,yA,Nat.add_sub_cancel_left]
structure CK(N:Nat)(cl:List Int)(r:Nat->Nat):Prop where
 len:cl.length=N
 get:∀i,i<N->cl[i]? = some (r i:Int)
 le:∀i,i<N->r i<=i
 idem:∀i,i<N->r (r i)=r i
variable{N:Nat}
variable{cl:List Int}
variable{r:Nat->Nat}
theorem CK.lt(h:CK N cl r){i:Nat}(hi:i<N):r i<N:=by have:=h.le i hi;omega
theorem CK.at(h:CK N cl r){v:Int}(hv:0<=v/\v<(N:Int)):aB cl v=some (r v.toNat:Int):=by
 rw[show v=((v.toNat:Nat):Int) by omega,cK,h.get _ (by omega),zZ]
def lX(lo hi:Int)(l:List Int):List Int:=l.map fun x=>if x==hi then lo else x
theorem z1q{N:Nat}(hN:N<=100000):∀(m i:Nat),N-i<m->i<=N->Ij (N:Int) m (i:Int) (uR 0 i)=some (uR 0 N)
 |0,i,hm,_=>by omega
 |m+1,i,hm,hi=>by
  unfold Ij;by_cases aE:i<N;simp only[hH aE,zC,iU aE (show N<=9223372036854775807 by omega)];rw[fG (by rw[ab];omega)];have:=z1q hN m (i+1) (by omega) (by omega);rw[z8g,Nat.zero_add]at this;exact this;have:i=N:=by omega
  subst this;simp only[iF aE,zD,yr]
theorem z6n(hN:N<=100000)(hn:N<n):kg n (N:Int)=some (uR 0 N):=by
 have:=z1q hN n 0 (by omega) (by omega);rw[zV]at this;exact this
theorem qpx{O:Type}(a b:List O)(x y:O)(k:Nat)(h:a.length=k):(a++x::b).set (0+k) y=a++y::b:=by subst h;simp
theorem wt(lo hi:Int)(a b:List Int):lX lo hi (a++b)=lX lo hi a++lX lo hi b:=List.map_append
theorem RT{lo hi x:Int}(h:(x==hi)=true):lX lo hi [x]=[lo]:=by simp only[lX,zQ,List.map_nil,h,if_true]
theorem RV{lo hi x:Int}(h:(x==hi)=false):lX lo hi [x]=[x]:=by simp only[lX,zQ,List.map_nil,h];rfl
theorem qym{x4 x6 x8 x10:Int}:∀(m:Nat)(a b:List Int),b.length<m->a.length+b.length<=100000->
  PC x4 x6 x8 x10 m (a.length:Int) (lX (if x6<x4 then x6 else x4) (if x10>x8 then x10 else x8) a++b)=some (lX (if x6<x4 then x6 else x4) (if x10>x8 then x10 else x8) (a++b))
 |0,a,b,hm,_=>by omega
 |m+1,a,[],hm,hl=>by
  unfold PC;have:decide (((a.length:Nat):Int)<((lX (if x6<x4 then x6 else x4) (if x10>x8 then x10 else x8) a++[]).length:Int))=false:=by simp[lX]
  rw[this,zD,yp,List.append_nil,List.append_nil]
 |m+1,a,x::b,hm,hl=>by
  simp only[zO]at hm hl;unfold PC;have h1:decide (((a.length:Nat):Int)<((lX (if x6<x4 then x6 else x4) (if x10>x8 then x10 else x8) a++x::b).length:Int))=true:=by simp[lX];omega
  have h2:(lX (if x6<x4 then x6 else x4) (if x10>x8 then x10 else x8) a++x::b)[a.length]? = some x:=by rw[List.getElem?_append_right (by simp[lX])];simp[lX]
  have hw:IntKind.i64.wrap ((a.length:Int)+1)=((a.length+1:Nat):Int):=by rw[wr (by omega) (by omega)];simp
  have ih:=qym (x4:=x4) (x6:=x6) (x8:=x8) (x10:=x10) m (a++[x]) b (by omega) (by simp only[zU,zO,zS];omega);simp only[zU,zO,zS,Nat.zero_add]at ih;simp only[h1,zC,cK,h2,aO,zZ,Rt,hw];have e3:a++[x]++b=a++x::b:=by simp
  by_cases e:(x==(if x10>x8 then x10 else x8))=true;rw[wt,RT e,zT,List.cons_append,List.nil_append]at ih;rw[e,zC,qpx _ _ _ _ _ (by simp[lX]),ih,e3];rw[Bool.not_eq_true]at e;rw[wt,RV e,zT,List.cons_append,List.nil_append]at ih;rw[e,zD,ih,e3]
variable{a:Nat}
variable{b:Nat}
theorem La:(if(b:Int)<(a:Int)then(b:Int)else(a:Int))=((min a b:Nat):Int):=by
 split;rw[Nat.min_eq_right (by omega)];rw[Nat.min_eq_left (by omega)]
theorem qt:(if(b:Int)>(a:Int)then(b:Int)else(a:Int))=((max a b:Nat):Int):=by
 split;rw[Nat.max_eq_right (by omega)];rw[Nat.max_eq_left (by omega)]
theorem CK.mrg(h:CK N cl r)(ha:a<N)(hb:b<N):CK N (lX ((min (r a) (r b):Nat):Int) ((max (r a) (r b):Nat):Int) cl) (gS r (min (r a) (r b)) (max (r a) (r b))):=by
 have ia:=h.idem a ha;have ib:=h.idem b hb;have Kh:r (min (r a) (r b))=min (r a) (r b):=by rcases Nat.le_total (r a) (r b)with h1 |h1;rw[Nat.min_eq_left h1,ia];rw[Nat.min_eq_right h1,ib]
 refine⟨by simp[lX,h.len],fun i hi=>?_,fun i hi=>?_,fun i hi=>?_⟩;simp only[lX,List.getElem?_map,h.get i hi,zM,zA];unfold gS;by_cases e:r i=max (r a) (r b);rw[if_pos e,e];simp;rw[if_neg e];have:((r i:Int)==((max (r a) (r b):Nat):Int))=false:=by simp only[beq_eq_false_iff_ne,ne_eq];omega
 rw[this];rfl
 ·have:=h.le i hi;unfold gS;split
  ·next e=>omega
  exact this
 have:=h.idem i hi;unfold gS;by_cases e:r i=max (r a) (r b);rw[if_pos e,Kh];split<;>rfl;rw[if_neg e,this,if_neg e]
theorem z7t(h:CK N cl r)(hN:N<=100000){a b:Int}(ha:0<=a/\a<(N:Int))(hb:0<=b/\b<(N:Int))(hn:N<n):
  Qh n cl a b=some (lX ((min (r a.toNat) (r b.toNat):Nat):Int) ((max (r a.toNat) (r b.toNat):Nat):Int) cl):=by
 have hl:=h.len;simp only[Qh,h.at ha,h.at hb,aO];rw[fG (by omega)];have:=qym (x4:=(r a.toNat:Int)) (x6:=(r b.toNat:Int)) (x8:=(r a.toNat:Int)) (x10:=(r b.toNat:Int)) n [] cl (by omega) (by simp only[zS];omega);simp only[zS,lX,List.map_nil,List.nil_append,zV]at this;rw[this,La,qt];rfl
theorem qzi{l:List aK}{f:Int}(hl:l.length<=100000):∀(m i:Nat),l.length-i<m->i<=l.length->Ir l f m (i:Int)=some (match (l.drop i).find? fun x=>x.Feat==f with |some x=>(x.To,true)|none=>(0,false))
 |0,i,hm,_=>by omega
 |m+1,i,hm,hi=>by unfold Ir;by_cases aE:i<l.length;obtain⟨x,hx,_⟩:=eM aE;simp only[hH aE,zC,cK,hx,aO,iU aE (show l.length<=9223372036854775807 by omega),aW hx,List.find?_cons];rcases e:x.Feat==f with _|_;simp only[zD];exact qzi hl m (i+1) (by omega) (by omega);simp only[zC];simp only[iF aE,zD,bT aE,my,List.find?_nil]
theorem z5y{l:List aK}{f:Int}(hl:l.length<=100000)(hn:l.length<n):vd n l f=some (match l.find? fun x=>x.Feat==f with |some x=>(x.To,true)|none=>(0,false)):=by
 have:=qzi (f:=f) hl n 0 (by omega) (by omega);rw[zV,List.drop_zero]at this;exact this
def ua(q:gY):Int×Int:=(q.E0,q.E1)
theorem z76{a b:List aK}(ha:mI a)(hb:mI b):mI (a++nB a b):=by
 unfold mI at*;rw[List.pairwise_append];refine⟨ha,hb.filter _,fun x hx y hy e=>?_⟩;have:=(List.mem_filter.1 hy).2;have h2:xP a y.Feat=true:=MG.2 ⟨x,hx,e⟩;rw[h2]at this;cases this
theorem IH{cells:List aS}{m n:Nat}{x y:aS}(hx:cells[m]? = some x)(hy:cells[n]? = some y)(vY:m≠n)(t:Int){o:List aK}{k:Nat}(ho:o.length+k=x.arcs.length+y.arcs.length):
  tot (xO cells m n t o)+k=tot cells:=by
 have h1:=Gc ⟨-1,t,o⟩ hx;have FU:(cells.set m ⟨-1,t,o⟩)[n]? = some y:=by rw[List.getElem?_set_ne vY];exact hy
 have h2:=Gc ⟨(m:Int),0,[]⟩ FU;simp only[xO,zS]at*;omega
theorem xd{O:Type}{l:List O}{N i:Nat}(hi:i<N){x:O}(hx:l[i]? = some x):mK l 0 ((N:Int).toNat) (i:Int)=some x:=by
 rw[mK,if_pos (by simp only[zZ];omega),Nat.zero_add,zZ,hx]
theorem z95{p1:List aN}{n:Nat}{z:Int}{A:List (List aK)}{rc:Int->List gY->List (List aK)->List Int->Option (List Int)}{x y:Nat}{out:List Int}{a b:List aK}(hx:x<p1.length)(hy:y<p1.length)
  (ha:A[min x y]? = some a) (hb:A[max x y]? = some b) (hda:mI a) (eS:a.length<=50000) (Ce:b.length<=50000) (hn:100000<=n) {T:List gY} (hT:T.length<=1000000):∀(m k:Nat),b.length-k<m->k<=b.length->
  T0 p1 n z A rc (x:Int) (y:Int) (x:Int) (y:Int) out m (k:Int) (a++nB a (b.take k)) (T++(prs a (b.take k)).map pk)=
   Ru p1 z A rc (x:Int) (y:Int) out (a++nB a b) (T++(prs a b).map pk)
 |0,k,hm,_=>by omega
 |m+1,k,hm,hk=>by
  unfold T0;have h1:mK A 0 ((p1.length:Int).toNat) (if(y:Int)>(x:Int)then(y:Int)else(x:Int))=some b:=by rw[qt];exact xd (by omega) hb
  have h2:mK A 0 ((p1.length:Int).toNat) (if(y:Int)<(x:Int)then(y:Int)else(x:Int))=some a:=by rw[La];exact xd (by omega) ha
  have nI:=Gi a (b.take k);have DF:(b.take k).length<=k:=by rw[List.length_take];omega
  simp only[h1,aO];by_cases aE:k<b.length;obtain⟨v,hv,O_⟩:=eM aE;simp only[hH aE,zC,cK,hv,aO,h2,z5y (f:=v.Feat) (show a.length<=100000 by omega) (show a.length<n by omega),iU aE (show b.length<=9223372036854775807 by omega),Sa];have ih:=z95 (z:=z) (rc:=rc) (out:=out) hx hy ha hb hda eS Ce hn hT m (k+1) (by omega) (by omega);rw[j9 hv,ir]at ih;cases hf:a.find? (fun w=>w.Feat==v.Feat)with
  |some w=>
   have hw:=List.mem_of_find?_eq_some hf;have Jz:w.Feat=v.Feat:=by have:=List.find?_some hf;simpa using this
   have hh:xP a v.Feat=true:=MG.2 ⟨w,hw,Jz⟩;rw[qpm hda hw Jz,hh]at ih;simp only[zC];rw[fG (by simp only[zU,yA];omega)];rw[<-ih];simp[pk]
  |none=>
   have eE:∀w∈a,w.Feat≠v.Feat:=fun w hw e=>by have:=List.find?_eq_none.1 hf w hw;simp[e]at this
   have hh:xP a v.Feat=false:=by rw[Bool.eq_false_iff];intro e;obtain⟨w,hw,e⟩:=MG.1 e;exact eE w hw e
   rw[qnk eE,hh]at ih;simp only[zD];rw[fG (by simp only[zU];omega)];rw[<-ih];simp
  have:k=b.length:=by omega
  subst this;simp only[iF aE,zD,List.take_length]
theorem z94{p1:List aN}{n:Nat}{z:Int}{T:List gY}{A:List (List aK)}{rc:Int->List gY->List (List aK)->List Int->Option (List Int)}{x39 x43 x47 x51:Int}:∀(m:Nat)(a b:List Int),b.length<m->a.length+b.length<=100000->
  PD p1 n z T A rc x39 x43 x47 x51 m (a.length:Int) (lX (if x43<x39 then x43 else x39) (if x51>x47 then x51 else x47) a++b)=Rv p1 n z T A rc x39 x43 x47 x51 (lX (if x43<x39 then x43 else x39) (if x51>x47 then x51 else x47) (a++b))
 |0,a,b,hm,_=>by omega
 |m+1,a,[],hm,hl=>by
  unfold PD;have:decide (((a.length:Nat):Int)<((lX (if x43<x39 then x43 else x39) (if x51>x47 then x51 else x47) a++[]).length:Int))=false:=by simp[lX]
  rw[this,zD,List.append_nil,List.append_nil]
 |m+1,a,x::b,hm,hl=>by
  simp only[zO]at hm hl;unfold PD;have h1:decide (((a.length:Nat):Int)<((lX (if x43<x39 then x43 else x39) (if x51>x47 then x51 else x47) a++x::b).length:Int))=true:=by simp[lX];omega
  have h2:(lX (if x43<x39 then x43 else x39) (if x51>x47 then x51 else x47) a++x::b)[a.length]? = some x:=by rw[List.getElem?_append_right (by simp[lX])];simp[lX]
  have hw:IntKind.i64.wrap ((a.length:Int)+1)=((a.length+1:Nat):Int):=by rw[wr (by omega) (by omega)];simp
  have ih:=z94 (p1:=p1) (n:=n) (z:=z) (T:=T) (A:=A) (rc:=rc) (x39:=x39) (x43:=x43) (x47:=x47) (x51:=x51) m (a++[x]) b (by omega) (by simp only[zU,zO,zS];omega);simp only[zU,zO,zS,Nat.zero_add]at ih;simp only[h1,zC,cK,h2,aO,zZ,Rz,hw];have e3:a++[x]++b=a++x::b:=by simp
  by_cases e:(x==(if x51>x47 then x51 else x47))=true;rw[wt,RT e,zT,List.cons_append,List.nil_append]at ih;rw[e,zC,qpx _ _ _ _ _ (by simp[lX]),ih,e3];rw[Bool.not_eq_true]at e;rw[wt,RV e,zT,List.cons_append,List.nil_append]at ih;rw[e,zD,ih,e3]
structure CS(N:Nat)(L:List aN)(W:List (Int×Int))(A:List (List aK))(out:List Int)(C:List aS)(r:Nat->Nat):Prop where
 ck:CK N out r
 cl:C.length=N
 al:A.length=N
 ar:∀i,i<N->r i=i->A[i]? = some (celN C i).arcs
 ds:∀i,i<N->mI (celN C i).arcs
 pi:∀p∈W,Nw N p
 tc:TC [] N L W C r
structure CD(N:Nat)(L:List aN)(W:List (Int×Int))(r:Nat->Nat)(pI:List Int)(C':List aS)(r':Nat->Nat):Prop where
 ck:CK N pI r'
 cl:C'.length=N
 ds:∀i,i<N->mI (celN C' i).arcs
 tc:TC [] N L [] C' r'
 mono:∀i j,r i=r j->r' i=r' j
 prs:∀p∈W,r' p.1.toNat=r' p.2.toNat
 und:∀q,I5 L q->VW N W r q->VW N [] r' q
theorem tf{N:Nat}{L:List aN}(hL:B8 N [] L)(hN:N<=1000){n:Nat}(hn:200000<=n):∀(m z:Nat)(T:List gY)(A:List (List aK))(out:List Int)(C:List aS)(r:Nat->Nat),
  CS N L ((T.drop z).map ua) A out C r->z<=T.length->T.length-z+tot C<m->T.length+tot C<=50000->
  ∃pI C' r',BV L n m (z:Int) T A out=some pI/\CD N L ((T.drop z).map ua) r pI C' r'
 |0,z,T,A,out,C,r,_,_,hm,_=>by omega
 |m+1,z,T,A,out,C,r,h,hz,hm,hB=>by
  unfold BV;have qY:=hL.len;by_cases aE:z<T.length;obtain⟨p,hp,_⟩:=eM aE;have HK:=aW hp;rw[HK,zQ]at h ⊢;have Vn:=h.pi (ua p) (by simp);obtain⟨i1,i2⟩:=Vn;simp only[ua]at i1 i2;have c1:=h.ck.at i1;have c2:=h.ck.at i2;have l1:=h.ck.lt (i:=p.E0.toNat) (by omega);have l2:=h.ck.lt (i:=p.E1.toNat) (by omega);simp only[hH aE,zC,cK,hp,aO,c1,c2];rw[La,qt];have hw:IntKind.i64.wrap ((z:Int)+1)=((z+1:Nat):Int):=iU aE (by omega);by_cases e:r p.E0.toNat=r p.E1.toNat;have eb:((((min (r p.E0.toNat) (r p.E1.toNat):Nat):Int))==((max (r p.E0.toNat) (r p.E1.toNat):Nat):Int))=true:=by rw[e];simp
  rw[eb,zC,hw];obtain⟨pI,C',r',g1,g2⟩:=tf hL hN hn m (z+1) T A out C r ⟨h.ck,h.cl,h.al,h.ar,h.ds,fun q hq=>h.pi q (List.mem_cons_of_mem _ hq),h.tc.skip (h.pi _ (by simp)) e⟩ (by omega) (by omega) hB;refine⟨pI,C',r',g1,⟨g2.ck,g2.cl,g2.ds,g2.tc,g2.mono,fun q hq=>?_,fun q hq hu=>g2.und q hq ⟨hu.r,fun w hw=>hu.w w (List.mem_cons_of_mem _ hw)⟩⟩⟩;rcases zI.1 hq with rfl |hq;exact g2.mono _ _ e;exact g2.prs q hq;have eb:((((min (r p.E0.toNat) (r p.E1.toNat):Nat):Int))==((max (r p.E0.toNat) (r p.E1.toNat):Nat):Int))=false:=by rw[beq_eq_false_iff_ne];intro q;omega
  have idl:r (min (r p.E0.toNat) (r p.E1.toNat))=min (r p.E0.toNat) (r p.E1.toNat):=by rcases Nat.le_total (r p.E0.toNat) (r p.E1.toNat)with g |g;rw[Nat.min_eq_left g];exact h.ck.idem _ (by omega);rw[Nat.min_eq_right g];exact h.ck.idem _ (by omega)
  have idh:r (max (r p.E0.toNat) (r p.E1.toNat))=max (r p.E0.toNat) (r p.E1.toNat):=by rcases Nat.le_total (r p.E0.toNat) (r p.E1.toNat)with g |g;rw[Nat.max_eq_right g];exact h.ck.idem _ (by omega);rw[Nat.max_eq_left g];exact h.ck.idem _ (by omega)
  generalize G1:min (r p.E0.toNat) (r p.E1.toNat)=lo at*;generalize UK:max (r p.E0.toNat) (r p.E1.toNat)=hi at*;have llo:lo<N:=by omega
  have lhi:hi<N:=by omega
  have lne:lo≠hi:=by omega
  have a1:=h.ar lo llo idl;have a2:=h.ar hi lhi idh;have hCl:=h.cl;have clo:C[lo]? = some (celN C lo):=by rw[celN,List.getElem?_eq_getElem (by omega)];rfl
  have chi:C[hi]? = some (celN C hi):=by rw[celN,List.getElem?_eq_getElem (by omega)];rfl
  have t1:=Gd clo;have t2:=Gd chi;have nI:=Gi (celN C lo).arcs (celN C hi).arcs;have hM:((celN C lo).arcs++nB (celN C lo).arcs (celN C hi).arcs).length+(prs (celN C lo).arcs (celN C hi).arcs).length=(celN C lo).arcs.length+(celN C hi).arcs.length:=by rw[zU];omega
  have htm:=IH clo chi lne 0 hM;have hMg:Mg N (ua p) C r lo hi:=⟨h.cl,llo,lhi,idl,idh,lne,fun i hi=>h.ck.lt hi,h.ck.idem,h.pi _ (by simp),by simp only[ua];omega,h.ds lo llo⟩;rw[eb,zD];have l3:=z94 (p1:=L) (n:=n) (z:=(z:Int)) (T:=T) (A:=A) (rc:=BV L n m) (x39:=(r p.E0.toNat:Int)) (x43:=(r p.E1.toNat:Int)) (x47:=(r p.E0.toNat:Int)) (x51:=(r p.E1.toNat:Int)) n [] out (by rw[h.ck.len];omega) (by rw[h.ck.len];simp only[zS];omega);simp only[zS,lX,List.map_nil,List.nil_append,zV]at l3;rw[l3,Rv];have i3:mK A 0 ((L.length:Int).toNat) (if(r p.E1.toNat:Int)<(r p.E0.toNat:Int)then(r p.E1.toNat:Int)else(r p.E0.toNat:Int))=some (celN C lo).arcs:=by rw[La,G1];exact xd (by omega) a1
  rw[i3,aO,fG (by omega)];have l4:=z95 (p1:=L) (n:=n) (z:=(z:Int)) (A:=A) (rc:=BV L n m) (x:=r p.E0.toNat) (y:=r p.E1.toNat) (out:=List.map (fun x=>if x==(if(r p.E1.toNat:Int)>(r p.E0.toNat:Int)then(r p.E1.toNat:Int)else(r p.E0.toNat:Int))then(if(r p.E1.toNat:Int)<(r p.E0.toNat:Int)then(r p.E1.toNat:Int)else(r p.E0.toNat:Int))else x) out)
   (by omega) (by omega) (by rw[G1];exact a1) (by rw[UK];exact a2) (h.ds lo llo) (by omega) (by omega) (by omega) (T:=T) (by omega) n 0 (by omega) (by omega)
  simp only[List.take_zero,nB,prs,List.filter_nil,List.filterMap_nil,List.map_nil,List.append_nil,zV]at l4;rw[l4,Ru,i3,aO,hw,La,qt,G1,UK,zZ];have i?:(celN C hi).arcs.filterMap (fun y=>Option.map (fun x=>(x.To,y.To)) ((celN C lo).arcs.find? fun x=>x.Feat==y.Feat))=prs (celN C lo).arcs (celN C hi).arcs:=rfl;have i7:(celN C hi).arcs.filter (fun y=>!xP (celN C lo).arcs y.Feat)=nB (celN C lo).arcs (celN C hi).arcs:=rfl;rw[i?,i7];have wZ:=h.ck.mrg (a:=p.E0.toNat) (b:=p.E1.toNat) (by omega) (by omega);rw[G1,UK]at wZ;have UN:((T++(Go.Proofs.prs (celN C lo).arcs (celN C hi).arcs).map pk).drop (z+1)).map ua=(T.drop (z+1)).map ua++Go.Proofs.prs (celN C lo).arcs (celN C hi).arcs:=by rw[List.drop_append_of_le_length (by omega),List.map_append,List.map_map];congr 1;have:(ua ∘ pk)=(id:Int×Int->Int×Int):=funext fun q=>rfl;rw[this,List.map_id]
  have A7:=qxv (c:=C) (m:=lo) (n:=hi) (by omega) (by omega) lne 0 ((celN C lo).arcs++nB (celN C lo).arcs (celN C hi).arcs);have inr:∀i,i<N->r i=i->∀b∈(celN C i).arcs,0<=b.To/\b.To<(N:Int):=fun i hi rX b hb=>by obtain⟨j,c,q1,q2,q3⟩:=h.tc.snd i b hi rX hb;exact hL.ar j c b q1 q3
  have Kb:∀w∈Go.Proofs.prs (celN C lo).arcs (celN C hi).arcs,w∈(T.drop (z+1)).map ua++Go.Proofs.prs (celN C lo).arcs (celN C hi).arcs:=fun w hw=>List.mem_append_right _ hw;have xY:∀w∈(T.drop (z+1)).map ua,w∈(T.drop (z+1)).map ua++Go.Proofs.prs (celN C lo).arcs (celN C hi).arcs:=fun w hw=>List.mem_append_left _ hw;have W_:=h.tc.mrg hL hMg (t:=0) (o:=(celN C lo).arcs++nB (celN C lo).arcs (celN C hi).arcs) (by simp[eW]) (List.Perm.refl _) Kb xY;obtain⟨pI,C',r',g1,g2⟩:=tf hL hN hn m (z+1) (T++(Go.Proofs.prs (celN C lo).arcs (celN C hi).arcs).map pk) (A.set lo ((celN C lo).arcs++nB (celN C lo).arcs (celN C hi).arcs)) (lX (lo:Int) (hi:Int) out) (xO C lo hi 0 ((celN C lo).arcs++nB (celN C lo).arcs (celN C hi).arcs)) (gS r lo hi)
   (by
    rw[UN];refine⟨wZ,by simp[xO,h.cl],by simp[h.al],fun i jA rX=>?_,fun i jA=>?_,fun q hq=>?_,W_⟩;rw[A7];have hih:i≠hi:=fun q=>by subst q;unfold gS at rX;rw[idh,if_pos rfl]at rX;exact lne rX
    rw[if_neg hih];by_cases eil:i=lo;subst eil;rw[if_pos rfl,List.getElem?_set_self (by rw[h.al];exact jA)];rw[if_neg eil,List.getElem?_set_ne (fun q=>eil q.symm)];refine h.ar i jA ?_;unfold gS at rX;split at rX;exact absurd rX.symm eil;exact rX;rw[A7];split;exact List.Pairwise.nil;split;exact z76 (h.ds lo llo) (h.ds hi lhi);exact h.ds i jA;rcases yD.1 hq with hq |hq;exact h.pi q (List.mem_cons_of_mem _ hq);obtain⟨x,hx,y,hy,_,rfl⟩:=af hq;exact⟨inr lo llo idl x hx,inr hi lhi idh y hy⟩)
   (by rw[zU];omega) (by simp only[zU,yA];omega) (by simp only[zU,yA];omega)
  rw[UN]at g2;refine⟨pI,C',r',g1,⟨g2.ck,g2.cl,g2.ds,g2.tc,fun i j lS=>g2.mono i j (ja lS),fun q hq=>?_,fun q hq hu=>?_⟩⟩;rcases zI.1 hq with rfl |hq;refine g2.mono _ _ ?_;simp only[ua];unfold gS;have:(r p.E0.toNat=lo/\r p.E1.toNat=hi)\/(r p.E0.toNat=hi/\r p.E1.toNat=lo):=by omega
  rcases this with⟨q1,q2⟩|⟨q1,q2⟩;rw[q1,q2,if_neg lne,if_pos rfl];rw[q1,q2,if_neg lne,if_pos rfl];exact g2.prs q (xY q hq);refine g2.und q hq (hu.mrg hL hMg h.tc hq fun w hw=>?_).2;rcases yD.1 hw with hw |hw;exact .inr hw;exact .inl hw;have:z=T.length:=by omega
  subst this;rw[List.drop_length,List.map_nil]at h ⊢;simp only[iF aE,zD,yq];exact⟨out,C,r,rfl,h.ck,h.cl,h.ds,h.tc,fun _ _ q=>q,(fun _ hq=>(by cases hq)),fun _ _ hu=>hu⟩
end Go.Proofs
