import Derived.Test.YtldlchbgolpkaaaGreatP18
set_option linter.all false
namespace Go.Proofs
open Go Go.Rx Go.Vx Go.Shelf Go.Sort
set_option maxRecDepth 10000
variable{d:List bA}
variable{n:Nat}
theorem za1(h:tL d){all:List Str}(hal:all.length<=12){s:Str}(hs:iU d s)(ha:∀x∈all,iU d x)(hn:5000<=n):∃w,Bl n d all s=some (bt w)/\w<4096/\∀i,w.testBit i=true↔∃t,all[i]? = some t/\lN d t s:=by
 obtain⟨low,b1,b2,b3,b4⟩:=z64 h hs hn;have:=gS (l:=all) (by omega) (F:=fun m z (s:List Nat)=>HI all n low m z (s.map fun(i:Nat)=>(i:Int))) (fun i s=>s.length<=i/\∀j,j∈s↔j<i/\∃t,all[j]? = some t/\t∈low) (Q:=fun r=>∃w,r=bt w/\w<4096/\∀i,w.testBit i=true↔∃t,all[i]? = some t/\lN d t s)
  (fun m i x s' hx hlt hd' hw hI ih=>by
   obtain⟨i1,i2⟩:=hI;simp only[HI,hd',zC,c6,hx,aL,H2 (l:=low) (by omega) x (n:=n) (by omega),Db,hw,yA];by_cases hm:x∈low;simp only[hm,yC,zC];rw[dZ (by omega)];have:=ih (s'++[i]) ⟨by simp;omega,fun j=>by rw[yD,i2,List.mem_singleton];constructor;rintro(⟨h1,h2⟩|rfl);exact⟨by omega,h2⟩;exact⟨by omega,x,hx,hm⟩;rintro⟨h1,h2⟩;by_cases e:j=i;exact .inr e;exact .inl ⟨by omega,h2⟩⟩;rw[List.map_append]at this;exact this;simp only[hm,yB,zD];exact ih s' ⟨by omega,fun j=>by
    rw[i2];constructor;rintro⟨h1,h2⟩;exact⟨by omega,h2⟩;rintro⟨h1,t,h2,h3⟩;refine⟨?_,t,h2,h3⟩;have:j≠i:=fun e=>by subst e;rw[hx]at h2;cases h2;exact hm h3
    omega⟩)
  (fun m s' hd' hI=>by
   obtain⟨i1,i2⟩:=hI;have dJ:∀i∈s',i<12:=fun i hi=>by have:=((i2 i).1 hi).1;omega
   simp only[HI,hd',zD,Pe,Ey (l:=s') (by omega) dJ hn,aL];refine⟨_,rfl,C4 s',rfl,Tv s' 0 dJ (by omega),fun i=>?_⟩;rw[C4,kl];simp only[Nat.zero_testBit,Bool.false_or,decide_eq_true_eq];rw[i2];constructor;rintro⟨_,t,h1,h2⟩;exact⟨t,h1,((b4 t).1 h2).2⟩;rintro⟨t,h1,h2⟩;exact⟨(zG.1 h1).1,t,h1,(b4 t).2 ⟨ha t (zX h1),h2⟩⟩) n 0 [] (by omega) (by omega) ⟨by simp,fun j=>by simp⟩
 obtain⟨r,h1,w,rfl,h2,h3⟩:=this;rw[zV]at h1;exact⟨w,by simp only[Bl,b1,aL];exact h1,h2,h3⟩
structure FI(c0 ws:List Nat):Prop where
 pre:∃t,ws=c0++t
 nod:ws.Nodup
 ok:∀a∈ws,a<4096/\a≠0/\∃b∈c0,a&&&b=a
 len:ws.length<=257
def DS(ws:List Nat)(i k:Nat):Prop:=∀i' k' a b,k'<i'->(i'<i\/(i'=i/\k'<k))->ws[i']? = some a->ws[k']? = some b->a&&&b=0\/a&&&b∈ws
variable{ws:List Nat}
theorem DS.app{t:List Nat}{i k:Nat}(h:DS ws i k)(hi:i<ws.length):DS (ws++t) i k:=fun i' k' a b h1 h2 h3 h4=>by
 have e1:i'<ws.length:=by omega
 rw[List.getElem?_append_left e1]at h3;rw[List.getElem?_append_left (by omega)]at h4;rcases h i' k' a b h1 h2 h3 h4 with h5 |h5;exact .inl h5;exact .inr (List.mem_append_left _ h5)
theorem Lo{c0:List Nat}{n:Nat}(hn:5000<=n){i:Nat}{rc:Int->List (List Int)->Option (List (List Int))}{Q:List (List Int)->Prop}(CQ:i<=256)(hrc:∀ws',FI c0 ws'->i<ws'.length->(ws'.length<=256->DS ws' (i+1) 0)->∃r,rc ((i+1:Nat):Int) (ws'.map bt)=some r/\Q r):
  ∀(m k:Nat)(ws:List Nat),i-k<m->k<=i->FI c0 ws->i<ws.length->(ws.length<=256->DS ws i k)->∃r,KO n i rc m k (ws.map bt)=some r/\Q r
 |0,k,ws,hm,_,_,_,_=>by omega
 |m+1,k,ws,hm,hk,hf,hi,hc=>by
  have hl:=hf.len;have hwi:IntKind.i64.wrap ((i:Int)+1)=((i+1:Nat):Int):=yS (by omega) (by omega);unfold KO;by_cases hlt:k<i;have e0:decide ((k:Int)<(i:Int))=true:=by simp;omega
  simp only[e0,zC,yA];by_cases v9:ws.length<=256;obtain⟨a,ha,ham⟩:=dM hi;obtain⟨b,hb,hbm⟩:=dM (show k<ws.length by omega);have e1:decide ((ws.length:Int)<=256)=true:=by simp;omega
  have ga:(ws.map bt)[i]? = some (bt a):=by rw[List.getElem?_map,ha];rfl
  have gb:(ws.map bt)[k]? = some (bt b):=by rw[List.getElem?_map,hb];rfl
  have hwk:IntKind.i64.wrap ((k:Int)+1)=((k+1:Nat):Int):=yS (by omega) (by omega);have oka:=hf.ok a ham;have okb:=hf.ok b hbm;simp only[e1,aL,zC,c6,ga,gb,yf oka.1 okb.1 (show 5<=n by omega),Fy (ws:=ws) (by omega) (b:=a&&&b) hn,Dx,hwk];have hcs:∀t,(a&&&b=0\/a&&&b∈ws++t)->DS (ws++t) i (k+1):=fun t ht i' k' x y h1 h2 h3 h4=>by by_cases e:i'=i/\k'=k;obtain⟨rfl,rfl⟩:=e;rw[List.getElem?_append_left hi,ha]at h3;rw[List.getElem?_append_left (by omega),hb]at h4;cases h3;cases h4;exact ht;exact(hc v9).app hi i' k' x y h1 (by omega) h3 h4
  by_cases hz:a&&&b=0;have e2:decide (((bt (a&&&b)).length:Int)>0)=false:=by rw[hz];simp[IT]
  simp only[e2,zD,aL];refine Lo hn CQ hrc m (k+1) ws (by omega) (by omega) hf hi fun _=>?_;have:=hcs [] (.inl hz)
  rwa [List.append_nil]at this
  have e2:decide (((bt (a&&&b)).length:Int)>0)=true:=by rw[oI hz];simp
  simp only[e2,zC,aL];by_cases hm':a&&&b∈ws;simp only[hm',yC,Bool.not_true,zD];refine Lo hn CQ hrc m (k+1) ws (by omega) (by omega) hf hi fun _=>?_;have:=hcs [] (.inr (by simpa using hm'))
  rwa [List.append_nil]at this
  simp only[hm',yB,Bool.not_false,zC];rw[dZ (by omega)];have hf':FI c0 (ws++[a&&&b]):=by obtain⟨t,ht⟩:=hf.pre;refine⟨⟨t++[a&&&b],by rw[ht,zT]⟩,?_,fun c hc=>?_,by simp;omega⟩;rw[List.nodup_append];exact⟨hf.nod,by simp,fun x hx y hy e=>by simp at hy;subst hy;subst e;exact hm' hx⟩;rcases yD.1 hc with hc |hc;exact hf.ok c hc;simp at hc;subst hc;obtain⟨g,hg,eg⟩:=oka.2.2;refine⟨Nat.lt_of_le_of_lt Nat.and_le_left oka.1,hz,g,hg,?_⟩;rw[Nat.and_assoc,Nat.and_comm b g,<-Nat.and_assoc,eg]
  have:=Lo hn CQ hrc m (k+1) (ws++[a&&&b]) (by omega) (by omega) hf' (by simp;omega) fun _=>hcs [a&&&b] (.inr (by simp));rw[List.map_append]at this;exact this;have e1:decide ((ws.length:Int)<=256)=false:=by simp;omega
  simp only[e1,aL,zD,Dv,hwi];exact hrc ws hf hi fun h=>absurd h v9;have e0:decide ((k:Int)<(i:Int))=false:=by simp;omega
  simp only[e0,zD,aL,Dv,hwi];refine hrc ws hf hi fun h i' k' a b h1 h2 h3 h4=>hc h i' k' a b h1 (by omega) h3 h4
theorem vk{c0:List Nat}{n:Nat}(hn:5000<=n):∀(m i:Nat)(ws:List Nat),258-i<=m->i<=257->FI c0 ws->i<=ws.length->(ws.length<=256->DS ws i 0)->
  ∃r,F7 n m i (ws.map bt)=some r/\∃ws',r=ws'.map bt/\FI c0 ws'/\(ws'.length<=256->DS ws' ws'.length 0)
 |0,i,ws,hm,_,_,_,_=>by omega
 |m+1,i,ws,hm,hi,hf,hil,hc=>by
  have hl:=hf.len;unfold F7;simp only[yA];by_cases hlt:i<ws.length;by_cases v9:ws.length<=256;have e1:decide ((ws.length:Int)<=256)=true:=by simp;omega
  simp only[fO hlt,zC,e1,aL];have:=Lo (c0:=c0) hn (i:=i) (rc:=F7 n m) (Q:=fun r=>∃ws',r=ws'.map bt/\FI c0 ws'/\(ws'.length<=256->DS ws' ws'.length 0)) (by omega) (fun ws' f1 f2 f3=>vk hn m (i+1) ws' (by omega) (by omega) f1 (by omega) f3) n 0 ws (by omega) (by omega) hf hlt hc;rw[zV]at this;exact this;have e1:decide ((ws.length:Int)<=256)=false:=by simp;omega
  simp only[fO hlt,zC,e1,aL,zD,Dw];exact⟨_,rfl,ws,rfl,hf,fun h=>absurd h v9⟩;simp only[fX hlt,zD,aL,Dw];have:i=ws.length:=by omega
  exact⟨_,rfl,ws,rfl,hf,this ▸ hc⟩
def IP(ws:List Nat):Prop:=∀a∈ws,∀b∈ws,a&&&b≠0->a&&&b∈ws
theorem DS.all(h:DS ws ws.length 0):IP ws:=fun a ha b hb hne=>by
 obtain⟨i,hi,rfl⟩:=List.mem_iff_getElem.1 ha;obtain⟨k,hk,rfl⟩:=List.mem_iff_getElem.1 hb;by_cases e:i=k;subst e;rw[Nat.and_self];exact ha;by_cases hlt:k<i;exact(h i k _ _ hlt (.inl hi) (List.getElem?_eq_getElem hi) (List.getElem?_eq_getElem hk)).resolve_left hne;rw[Nat.and_comm]at hne ⊢;exact(h k i _ _ (by omega) (.inl hk) (List.getElem?_eq_getElem hk) (List.getElem?_eq_getElem hi)).resolve_left hne
theorem z1w{c0:List Nat}(hl:c0.length<=12)(Sx:c0.Nodup)(hc:∀a∈c0,a<4096/\a≠0)(hn:5000<=n):∃ws,Cn n (c0.map bt)=some (ws.map bt)/\FI c0 ws/\(ws.length<=256->IP ws):=by
 obtain⟨r,h1,ws,rfl,h2,h3⟩:=vk (c0:=c0) hn n 0 c0 (by omega) (by omega) ⟨⟨[],by simp⟩,Sx,fun a ha=>⟨(hc a ha).1,(hc a ha).2,a,ha,Nat.and_self a⟩,by omega⟩ (by omega) (fun _ i' k' a b h1 h2=>by omega);rw[zV]at h1;refine⟨ws,?_,h2,fun h=>(h3 h).all⟩;rw[Cn,dZ (by rw[yA];omega)];exact h1
theorem R3{l:List Str}(hl:l.length<=12)(hs:∀s∈l,s.length<=32)(hn:5000<=n):∃s,EW l n [] 0=some s:=by
 have:=gS (l:=l) (by omega) (F:=fun m z s=>EW l m s z) (fun i s=>s.length<=33*i) (Q:=fun _=>True)
  (fun m i x s hx hlt hd' hw hI ih=>by
   have hxl:=hs x (zX hx);simp only[EW,hd',zC,Da,c6,hx,aL,hw];cases decide ((i:Int)>0)with
   |true=>simp only[zC];rw[dZ (by show s.length+1<=_;omega),dZ (by rw[zU];show s.length+1+x.length<=_;omega)];exact ih _ (by rw[zU,zU];show s.length+1+x.length<=_;omega)|false=>simp only[zD];rw[dZ (by omega)];exact ih _ (by rw[zU];omega))
  (fun m s hd' hI=>by simp only[EW,hd',zD,Pc];exact⟨s,rfl,trivial⟩) n 0 [] (by omega) (by omega) (by simp)
 obtain⟨s,h1,_⟩:=this;exact⟨s,h1⟩
theorem gj(h:tL d){all:List Str}(hal:all.length<=12){c0:List Nat}(CT:c0.length=all.length)(hc:∀a∈c0,a<4096){w:Nat}(hw:w<4096)(hn:5000<=n):
  ∃s,Bk n d all (c0.map bt) (bt w)=some s/\∀(i:Nat)(t:Str),c0.Nodup->c0[i]? = some w->all[i]? = some t->s=t:=by
 have:=gS (l:=all) (by omega) (F:=fun m z s=>HH d all (c0.map bt) (bt w) n m z s) (fun i (s:List Str)=>s.length<=i/\∀j,j<i->c0[j]? ≠some w) (Q:=fun s=>∀(i:Nat)(t:Str),c0.Nodup->c0[i]? = some w->all[i]? = some t->s=t)
  (fun m i x s hx hlt hd' hw' hI ih=>by
   obtain⟨a,ha,ham⟩:=dM (l:=c0) (show i<c0.length by omega);have ga:(c0.map bt)[i]? = some (bt a):=by rw[List.getElem?_map,ha];rfl
   simp only[HH,hd',zC,c6,ga,hx,aL,Ms (hc a ham) hw (show 5<=n by omega),ve (w:=w) (n:=n) hw (show i<64 by omega),Cz,hw'];by_cases e:a=w;subst e;simp only[yC,zC];refine⟨x,rfl,fun k t hnd hk ht=>?_⟩;obtain⟨p1,p2⟩:=zG.1 ha;obtain⟨q1,q2⟩:=zG.1 hk;have:i=k:=(List.getElem_inj hnd).1 (p2.trans q2.symm);subst this;rw[hx]at ht;exact Option.some.inj ht;have hno:∀j,j<i+1->c0[j]? ≠some w:=fun j hj=>by by_cases e2:j=i;subst e2;rw[ha];exact fun h=>e (Option.some.inj h);exact hI.2 j (by omega)
   simp only[e,yB,zD];cases w.testBit i with
   |true=>simp only[zC];rw[dZ (by have:=hI.1;omega)];exact ih (s++[x]) ⟨by have:=hI.1;simp;omega,hno⟩|false=>exact ih s ⟨by have:=hI.1;omega,hno⟩)
  (fun m s hd' hI=>by obtain⟨out,m1,m2,m3⟩:=T' h (l:=s) (by have:=hI.1;omega) hn;obtain⟨r,j1⟩:=R3 (l:=out) (by have:=hI.1;omega) (fun t ht=>by obtain⟨x,hx,e⟩:=(m3 t ht).2;have:=(h.nam.len x hx).2;rw[e]at this;exact this) hn;simp only[HH,hd',zD,Pd,m1,aL];refine⟨r,j1,fun i t _ hi _=>absurd hi (hI.2 i ?_)⟩;have:=(zG.1 hi).1;omega) n 0 [] (by omega) (by omega) ⟨by simp,fun j hj=>by omega⟩
 rw[zV]at this;exact this
def cw:List Int->Nat
 |[z]=>z.toNat|_=>0
theorem BI(w:Nat):cw (bt w)=w:=by
 by_cases h:w=0;subst h;rfl;rw[oI h];simp[cw]
def cnt(x:cR):Nat:=(bl (cw x.Code)).length
theorem z0x{x y:cR}{a b:Nat}(hx:x.Code=bt a)(hy:y.Code=bt b)(ha:a<4096)(hb:b<4096)(hn:5000<=n):∃r,Co n x y=some r/\(r=true->cnt y<=cnt x)/\(r=false->cnt x<=cnt y):=by
 have e1:cnt x=(bl a).length:=by rw[cnt,hx,BI]
 have e2:cnt y=(bl b).length:=by rw[cnt,hy,BI]
 rw[e1,e2];simp only[Co,hx,hy,bm ha (show 100<=n by omega),bm hb (show 100<=n by omega),aL];by_cases h1:((bl a).length:Int)>((bl b).length:Int);simp only[h1,yC,zC,aL];exact⟨true,rfl,fun _=>by omega,fun h=>by cases h⟩;simp only[h1,yB,zD];by_cases h2:((bl a).length:Int)=((bl b).length:Int);have:(((bl a).length:Int)==((bl b).length:Int))=true:=by simpa using h2
 simp only[this,zC,aL];exact⟨_,rfl,fun _=>by omega,fun _=>by omega⟩;have:(((bl a).length:Int)==((bl b).length:Int))=false:=by simpa using h2
 simp only[this,zD,aL];exact⟨false,rfl,fun h=>(by cases h),fun _=>by omega⟩
structure CI(nm:Nat->Option Str)(ws:List Nat)(l:List cR):Prop where
 perm:(l.map cR.Code).Perm (ws.map bt)
 nam:∀w∈ws,∃x∈l,x.Code=bt w/\nm w=some x.Name
 srt:l.Pairwise fun a b=>cnt b<=cnt a
variable{nm:Nat->Option Str}
variable{l:List cR}
theorem CI.len(h:CI nm ws l):l.length=ws.length:=by
 have:=h.perm.length_eq
 rwa [yA,yA]at this
theorem CI.cod(h:CI nm ws l):∀x∈l,∃w∈ws,x.Code=bt w:=fun x hx=>by
 have:=h.perm.mem_iff.1 (List.mem_map_of_mem (f:=cR.Code) hx);obtain⟨w,hw,e⟩:=List.mem_map.1 this;exact⟨w,hw,e.symm⟩
theorem Fi(h:CI nm ws l)(hl:l.length<=300)(hws:∀w∈ws,w<4096){w:Nat}(hw:w<4096){s:Str}(hs:nm w=some s)(hn:5000<=n){cU:Int}{rc:Int->List cR->Option (List cR×Int)}{Q:List cR×Int->Prop}
  (hrc:∀l',CI nm (ws++[w]) l'->∃r,rc (IntKind.i64.wrap (cU+1)) l'=some r/\Q r):
  ∀(m z:Nat),z<m->z<=l.length->(∀y∈l.drop z,cnt y<=cnt ⟨s,bt w⟩)->∃r,WB n cU l rc s (bt w) m z=some r/\Q r:=by
 have fin:∀z,z<=l.length->(∀y∈l.drop z,cnt y<=cnt ⟨s,bt w⟩)->(∀y∈l.take z,cnt ⟨s,bt w⟩<=cnt y)->∃r,Do cU l rc s (bt w) z=some r/\Q r:=by
  intro z hz hlo hhi;have t1:((l.drop 0).take ((z:Int)).toNat)=l.take z:=by rw[List.drop_zero,zZ]
  have t2:((l.drop (0+((z:Int)).toNat)).take (l.length-((z:Int)).toNat))=l.drop z:=by rw[zZ,Nat.zero_add];exact zW (by simp)
  have tl:(l.take z).length=z:=by simp;omega
  have dl:(l.drop z).length=l.length-z:=by simp
  simp only[Do,t1,t2];rw[dZ (by omega),dZ (by rw[zZ];omega),dZ (by rw[tl];omega),dZ (by rw[tl];omega),dZ (by omega),dZ (by rw[zZ];omega),dZ (by rw[zU,tl,dl];simp;omega)];refine hrc _ ⟨?_,fun v hv=>?_,?_⟩;have hp:((l.take z++[cR.mk s (bt w)])++l.drop z).Perm (l++[cR.mk s (bt w)]):=by rw[zT];refine(List.perm_append_comm_assoc _ _ _).trans ?_;rw[List.take_append_drop];exact List.perm_append_comm
  refine(hp.map cR.Code).trans ?_;rw[List.map_append,List.map_append];exact h.perm.append_right _;rcases yD.1 hv with hv |hv;obtain⟨x,hx,e1,e2⟩:=h.nam v hv;refine⟨x,?_,e1,e2⟩;rw[<-List.take_append_drop z l]at hx;rcases yD.1 hx with hx |hx;exact List.mem_append_left _ (List.mem_append_left _ hx);exact List.mem_append_right _ hx;simp at hv;subst hv;exact⟨⟨s,bt v⟩,by simp,rfl,hs⟩;have h1:=h.srt;rw[<-List.take_append_drop z l,List.pairwise_append]at h1;rw[List.pairwise_append,List.pairwise_append];refine⟨⟨h1.1,by simp,fun a ha b hb=>by simp at hb;subst hb;exact hhi a ha⟩,h1.2.1,fun a ha b hb=>?_⟩;rcases yD.1 ha with ha |ha;exact h1.2.2 a ha b hb;simp at ha;subst ha;exact hlo b hb
 intro m;induction m with
 |zero=>intro z hm;omega|succ m ih=>
  intro z hm hz hlo;unfold WB;by_cases h0:z=0;subst h0;simp only[zV,Int.lt_irrefl,yB,zD,aL,show((0:Int)>0)=False by simp];have:=fin 0 (by omega) hlo (by simp)
  rwa [zV]at this
  have e0:decide ((z:Int)>0)=true:=by simp;omega
  have e1:IntKind.i64.wrap ((z:Int)-1)=((z-1:Nat):Int):=yS (by omega) (by omega);obtain⟨y,hy,hym⟩:=dM (l:=l) (show z-1<l.length by omega);obtain⟨v,hv,ev⟩:=h.cod y hym;obtain⟨r,r1,r2,r3⟩:=z0x (x:=⟨s,bt w⟩) (y:=y) rfl ev hw (hws v hv) hn;simp only[e0,zC,e1,c6,hy,aL,r1];cases r with
  |true=>
   simp only[zC];refine ih (z-1) (by omega) (by omega) fun x hx=>?_;rw[aQ hy,show z-1+1=z by omega]at hx;rcases zI.1 hx with rfl |hx
   exact r2 rfl;exact hlo x hx
  |false=>
   simp only[zD];refine fin z hz hlo fun x hx=>?_;have h1:=h.srt;rw[<-List.take_append_drop (z-1) l,List.pairwise_append]at h1;have:l.take z=l.take (z-1)++[y]:=by rw[<-gM hy,show z-1+1=z by omega]
   rw[this]at hx;rcases yD.1 hx with hx |hx;exact Nat.le_trans (r3 rfl) (h1.2.2 x hx y (by rw[aQ hy];simp));simp at hx;subst hx;exact r3 rfl
theorem O9(h:tL d):∃s0,iU d s0/\∀s,iU d s->lN d s s0:=by
 obtain⟨l,hl,hlen⟩:=h.ord;have hall:∀s,iU d s->s∈l:=fun s ⟨x,hx,e⟩=>by
  apply Classical.byContradiction;intro hn;have h3:=Au (a:=s::l) (b:=d.map bA.Name) (List.nodup_cons.2 ⟨hn,hl.nodup.1⟩) fun t ht=>by rcases zI.1 ht with rfl |ht;rw[<-e];exact List.mem_map_of_mem hx;obtain⟨y,hy,rfl⟩:=hl.nodup.2 t ht;exact List.mem_map_of_mem hy
  simp at h3;omega
 obtain⟨x0,rJ⟩:∃x0,d.filter (fun x=>decide (x.Supers=[]))=[x0]:=List.length_eq_one_iff.1 h.one;have zo:x0∈d:=(List.mem_filter.1 (show x0∈d.filter (fun x=>decide (x.Supers=[])) by rw[rJ];simp)).1;refine⟨x0.Name,⟨x0,zo,rfl⟩,fun s hs=>?_⟩;have key:∀{l:List Str},Ord d l->∀s∈l,lN d s x0.Name:=by
  intro l hl;induction hl with
  |nil=>intro s hs;cases hs| @snoc l x g1 g2 g3 g4 ih=>
   intro s hs;rcases yD.1 hs with hs |hs;exact ih s hs;simp at hs;subst hs;cases hsup:x.Supers with
   |nil=>have:x∈d.filter (fun x=>decide (x.Supers=[])):=List.mem_filter.2 ⟨g2,by simp[hsup]⟩;rw[rJ]at this;simp at this;rw[this];exact .refl|cons u us=>
    have hu:u∈x.Supers:=by rw[hsup];simp
    exact lN.trans (.step .refl g2 rfl hu) (ih u (g4 u hu))
 exact key hl s (hall s hs)
structure AH(d:List bA)(l:List cR):Prop where
 ws:∃(nm:Nat->Option Str)(c0 ws:List Nat),FI c0 ws/\IP ws/\CI nm ws l/\ws.length<=256/\0<ws.length
 dcl:∀s,iU d s->∃x∈l,x.Name=s
 top:∃w0,(∃x∈l,x.Code=bt w0)/\∀x∈l,w0&&&cw x.Code=cw x.Code
theorem AH.len{d:List bA}{l:List cR}(h:AH d l):l.length<=256/\0<l.length:=by
 obtain⟨nm,c0,ws,h1,h2,h3,h4,h5⟩:=h.ws;have:=h3.len;omega
theorem AH.cod{d:List bA}{l:List cR}(h:AH d l):∀x∈l,∃w,x.Code=bt w/\w<4096/\w≠0:=fun x hx=>by
 obtain⟨nm,c0,ws,h1,h2,h3,h4,h5⟩:=h.ws;obtain⟨w,hw,e⟩:=h3.cod x hx;exact⟨w,e,(h1.ok w hw).1,(h1.ok w hw).2.1⟩
theorem z6e(hd:d.length<=12)(hn:5000<=n):∃l e,HA n d=some (l,e)/\(e=0->tL d/\AH d l):=by
 obtain⟨e,c1,c2⟩:=z1j hd hn;simp only[HA,c1,aL];by_cases he:e=0;subst he;have h:=c2 rfl;obtain⟨all,n1,n2⟩:=lI' (d:=d) (by omega) hn;have hal:all.length<=12:=by have:=n2.len;simp at this;omega
 have hall:∀s,s∈all↔iU d s:=fun s=>by rw[n2.mem];simp[iU,List.mem_map]
 simp only[bne_self_eq_false,zD,n1,aL];have:=gS (l:=all) (by omega) (F:=fun m z (s:List Nat)=>Q3 d n all m z (s.map bt)) (fun i s=>s.length=i/\(∀w∈s,w<4096)/\∀(j w:Nat)(t:Str),s[j]? = some w->all[j]? = some t->∀i:Nat,w.testBit i=true↔∃u,all[i]? = some u/\lN d u t) (Q:=fun r=>r.2=0->tL d/\AH d r.1)
  (fun m i x s hx hlt hd' hw hI ih=>by
   obtain⟨i1,i2,i3⟩:=hI;obtain⟨w,w1,w2,w3⟩:=za1 h hal ((hall x).1 (zX hx)) (fun y hy=>(hall y).1 hy) hn;simp only[Q3,hd',zC,c6,hx,aL,w1,hw,yA];rw[dZ (by omega)];have:=ih (s++[w]) ⟨by simp;omega,fun v hv=>by
    rcases yD.1 hv with hv |hv;exact i2 v hv;simp at hv;subst hv;exact w2,fun j v t hj ht=>by
    by_cases e:j<s.length;rw[List.getElem?_append_left e]at hj;exact i3 j v t hj ht;have:j=i:=by have:=(zG.1 hj).1;simp at this;omega
    subst this;rw[List.getElem?_append_right (by omega),i1,Nat.sub_self]at hj;simp at hj;subst hj;rw[hx]at ht;cases ht;exact w3⟩
   rw[List.map_append]at this;exact this)
  (fun m c0 hd' hI=>by
   obtain⟨i1,i2,i3⟩:=hI;have hself:∀(j w:Nat),c0[j]? = some w->w.testBit j=true:=fun j w hj=>by obtain⟨t,ht,_⟩:=dM (l:=all) (show j<all.length by have:=(zG.1 hj).1;omega);exact(i3 j w t hj ht j).2 ⟨t,ht,.refl⟩
   have hdis:c0.Nodup:=by rw[List.Nodup,List.pairwise_iff_getElem];intro a b ha hb hab e;obtain⟨s,hs,hsm⟩:=dM (l:=all) (show a<all.length by omega);obtain⟨t,ht,htm⟩:=dM (l:=all) (show b<all.length by omega);have ga:=List.getElem?_eq_getElem ha;have gb:=List.getElem?_eq_getElem hb;have h1:=hself a _ ga;have h2:=hself b _ gb;rw[e]at h1;rw[<-e]at h2;obtain⟨u,hu,hu2⟩:=(i3 b _ t gb ht a).1 h1;obtain⟨v,hv,zd⟩:=(i3 a _ s ga hs b).1 h2;rw[hs]at hu;cases hu;rw[ht]at hv;cases hv;have:=zbd h ((hall s).1 hsm) ((hall t).1 htm) hu2 zd;subst this;obtain⟨p1,p2⟩:=zG.1 hs;obtain⟨q1,q2⟩:=zG.1 ht;have:=(List.getElem_inj n2.asc.nodup).1 (p2.trans q2.symm);omega
   have zl:∀a∈c0,a<4096/\a≠0:=fun a ha=>⟨i2 a ha,fun e=>by obtain⟨j,hj,e2⟩:=List.mem_iff_getElem.1 ha;have:=hself j a (by rw[List.getElem?_eq_getElem hj,e2]);rw[e]at this;simp at this⟩;obtain⟨ws,f1,f2,f3⟩:=z1w (c0:=c0) (by omega) hdis zl hn;simp only[Q3,hd',zD,Qb,f1,aL,yA];by_cases v9:(ws.length:Int)>256;simp only[v9,yC,zC];exact⟨_,rfl,fun h=>by cases h⟩;simp only[v9,yB,zD];have hlen:ws.length<=256:=by omega
   have:=gS (l:=ws) (by omega) (F:=fun m z (s:List cR)=>HO d n all (c0.map bt) (ws.map bt) m z s) (fun i s=>CI (fun w=>Bk n d all (c0.map bt) (bt w)) (ws.take i) s) (Q:=fun r=>r.2=0->tL d/\AH d r.1)
    (fun m' i w s hx hlt cK sF gX iT=>by
     have hwm:=zX hx;have okw:=f2.ok w hwm;obtain⟨t,t1,t2⟩:=gj h hal (c0:=c0) i1 i2 okw.1 hn;have Gg:(ws.map bt)[i]? = some (bt w):=by rw[List.getElem?_map,hx];rfl
     have hsl:=gX.len;rw[List.length_take]at hsl;simp only[HO,yA,cK,zC,c6,Gg,aL,t1];refine Fi (w:=w) (s:=t) gX (by omega) (fun v hv=>(f2.ok v (List.mem_of_mem_take hv)).1) okw.1 t1 hn (fun l' hl'=>?_) n s.length (by omega) (by omega) (by simp);rw[sF];rw[<-gM hx]at hl';exact iT l' hl')
    (fun m' s cK gX=>by
     rw[zW (zF _)]at gX;simp only[HO,yA,cK,zD,Qa];have hpos:0<ws.length:=by
      have hone:0<d.length:=by have:=h.one;rcases d with _|⟨x,d⟩;simp at this;simp
      obtain⟨x,hx,hxm⟩:=dM (l:=d) hone;have:=(hall x.Name).2 ⟨x,hxm,rfl⟩;have:=List.length_pos_of_mem this;obtain⟨t,ht⟩:=f2.pre;rw[ht,zU];omega
     have htop:∃w0,(∃x∈s,x.Code=bt w0)/\∀x∈s,w0&&&cw x.Code=cw x.Code:=by
      obtain⟨s0,q1,q2⟩:=O9 h;obtain⟨j,hj,e⟩:=List.mem_iff_getElem.1 ((hall s0).2 q1);have hj':j<c0.length:=by omega
      obtain⟨p,hp⟩:=f2.pre;have hwm:c0[j]∈ws:=by rw[hp];exact List.mem_append_left _ (List.getElem_mem hj')
      obtain⟨x,hx,hxc,_⟩:=gX.nam _ hwm;have full:∀i,i<all.length->(c0[j]).testBit i=true:=fun i hi=>by obtain⟨u,hu,hum⟩:=dM hi;exact(i3 j _ s0 (List.getElem?_eq_getElem hj') (by rw[List.getElem?_eq_getElem hj,e]) i).2 ⟨u,hu,q2 u ((hall u).1 hum)⟩
      refine⟨c0[j],⟨x,hx,hxc⟩,fun y hy=>?_⟩;obtain⟨w,hw,ew⟩:=gX.cod y hy;rw[ew,BI];obtain⟨_,_,b,hb,hab⟩:=f2.ok w hw;refine Nat.eq_of_testBit_eq fun i=>?_;rw[Nat.testBit_and];rcases hwi:w.testBit i with _|_
      simp;have hbi:b.testBit i=true:=by have:=congrArg (fun z=>z.testBit i) hab;simp only[Nat.testBit_and,hwi,Bool.true_and]at this;exact this
      obtain⟨k,hk,e2⟩:=List.mem_iff_getElem.1 hb;obtain⟨t,ht,_⟩:=dM (l:=all) (show k<all.length by omega);obtain⟨u,hu,_⟩:=(i3 k b t (by rw[List.getElem?_eq_getElem hk,e2]) ht i).1 hbi;rw[full i (zG.1 hu).1];rfl
     refine⟨_,rfl,fun _=>⟨h,⟨_,c0,ws,f2,f3 hlen,gX,hlen,hpos⟩,fun t ht=>?_,htop⟩⟩;obtain⟨j,hj,e⟩:=List.mem_iff_getElem.1 ((hall t).2 ht);have hj':j<c0.length:=by omega
     obtain⟨p,hp⟩:=f2.pre;have hwm:c0[j]∈ws:=by rw[hp];exact List.mem_append_left _ (List.getElem_mem hj')
     obtain⟨x,hx,_,e2⟩:=gX.nam _ hwm;refine⟨x,hx,?_⟩;obtain⟨s2,t1,t2⟩:=gj h hal (c0:=c0) i1 i2 (f2.ok _ hwm).1 hn;rw[t1]at e2;rw[<-Option.some.inj e2];exact t2 j t hdis (List.getElem?_eq_getElem hj') (by rw[List.getElem?_eq_getElem hj,e])) n 0 [] (by omega) (by omega) ⟨by simp,by simp,List.Pairwise.nil⟩
   rw[zV]at this;exact this) n 0 [] (by omega) (by omega) ⟨rfl,by simp,fun j w t hj=>by simp at hj⟩
 rw[zV]at this;obtain⟨r,h1,h2⟩:=this;exact⟨r.1,r.2,h1,h2⟩;have:(e != 0)=true:=by simpa using he
 simp only[this,zC];exact⟨[],e,rfl,fun h=>absurd h he⟩
variable{n:Nat}
theorem su{x:bA}(hx:x.Feats.length<=256)(s:Str)(hn:5000<=n):∃r,Bw n x s=some r/\(r.2=true->∃f∈x.Feats,f.Feat=s/\f.Value=r.1):=by
 have:=gS (l:=x.Feats) (by omega) (F:=fun m z (_:Unit)=>PZ x s m z) (fun _ _=>True) (Q:=fun r=>r.2=true->∃f∈x.Feats,f.Feat=s/\f.Value=r.1)
  (fun m i f _ hf hlt hd' hw _ ih=>by simp only[PZ,hd',zC,c6,hf,aL,DI,hw];by_cases e:f.Feat=s;simp only[e,yC,zC];exact⟨_,rfl,fun _=>⟨f,zX hf,e,rfl⟩⟩;simp only[e,yB,zD];exact ih () trivial)
  (fun m _ hd' _=>by simp only[PZ,hd',zD,Ps];exact⟨_,rfl,fun h=>by cases h⟩) n 0 () (by omega) (by omega) trivial
 rw[zV]at this;exact this
variable{l:List cR}
theorem Xv(hl:l.length<=256)(s:Str)(hn:5000<=n):∃r,VQ n l s=some r/\((∃x∈l,x.Name=s)->∃j:Nat,r=(j:Int)/\j<l.length):=by
 have:=gS (l:=l) (by omega) (F:=fun m z (_:Unit)=>QB l s m z) (fun i _=>∀x∈l.take i,x.Name≠s) (Q:=fun r=>(∃x∈l,x.Name=s)->∃j:Nat,r=(j:Int)/\j<l.length)
  (fun m i x _ hx hlt hd' hw hI ih=>by
   simp only[QB,hd',zC,c6,hx,aL,DI,hw];by_cases e:x.Name=s;simp only[e,yC,zC];exact⟨_,rfl,fun _=>⟨i,rfl,hlt⟩⟩;simp only[e,yB,zD];refine ih () fun y hy=>?_;rw[gM hx]at hy;rcases yD.1 hy with hy |hy
   exact hI y hy;simp at hy;subst hy;exact e)
  (fun m _ hd' hI=>by rw[zW (zF _)]at hI;simp only[QB,hd',zD,Qw];exact⟨_,rfl,fun⟨x,hx,e⟩=>absurd e (hI x hx)⟩) n 0 () (by omega) (by omega) (by simp)
 rw[zV]at this;exact this
variable{d:List bA}
theorem z6m(hd:d.length<=12)(hf:∀x∈d,x.Feats.length<=256)(hn:5000<=n):∃f,PN n d=some f/\eG f/\f.length<=3072/\∀s∈f,∃x∈d,∃y∈x.Feats,y.Feat=s:=by
 have:=gS (l:=d) (by omega) (F:=fun m z s=>EY d n m s z) (fun i s=>eG s/\s.length<=256*i/\∀t∈s,∃x∈d,∃y∈x.Feats,y.Feat=t) (Q:=fun f=>eG f/\f.length<=3072/\∀s∈f,∃x∈d,∃y∈x.Feats,y.Feat=s)
  (fun m i x s hx hlt hd' hw hI ih=>by
   obtain⟨i1,i2,i3⟩:=hI;have hxm:=zX hx;have hxf:=hf x hxm;simp only[EY,hd',zC];have:=gS (l:=x.Feats) (by omega) (F:=fun m' z s'=>Q0 d n i (EY d n m) m' s' z) (fun k s'=>eG s'/\s'.length<=s.length+k/\∀t∈s',∃x∈d,∃y∈x.Feats,y.Feat=t) (Q:=fun f=>eG f/\f.length<=3072/\∀s∈f,∃x∈d,∃y∈x.Feats,y.Feat=s)
    (fun m' k y s' hy oP cK sF gX iT=>by obtain⟨j1,j2,j3⟩:=gX;obtain⟨o,h1,h2,h3,h4⟩:=UB (l:=s') (by omega) j1 y.Feat (show s'.length<n by omega);simp only[Q0,c6,hx,aL,cK,zC,hy,h1,sF];refine iT o ⟨h4,by omega,fun t ht=>?_⟩;rcases(h2 t).1 ht with rfl |ht;exact⟨x,hxm,y,zX hy,rfl⟩;exact j3 t ht)
    (fun m' s' cK gX=>by obtain⟨j1,j2,j3⟩:=gX;simp only[Q0,c6,hx,aL,cK,zD,Pv,hw];exact ih s' ⟨j1,by omega,j3⟩) n 0 s (by omega) (by omega) ⟨i1,by omega,i3⟩
   rw[zV]at this;exact this)
  (fun m s hd' hI=>by simp only[EY,hd',zD,Pw];exact⟨s,rfl,hI.1,by have:=hI.2.1;omega,hI.2.2⟩) n 0 [] (by omega) (by omega) ⟨List.Pairwise.nil,by simp,by simp⟩
 rw[zV]at this;exact this
theorem qzk(s:Str)(hn:40<=n):∃r,PW n s=some r:=by
 obtain⟨r,h1,_⟩:=gi s true hn;exact⟨r,by simp[PW,h1,aL]⟩
def yF(d:List bA)(n:Nat)(x:bA):Prop:=∀f∈x.Feats,PW n f.Feat=some true/\iU d f.Value
theorem qoa(h:tL d)(hn:5000<=n):∃e,Ek n d=some e/\(e=0->∀x∈d,yF d n x):=by
 have hd:=h.len;obtain⟨all,n1,n2⟩:=lI' (d:=d) (by omega) hn;have hal:all.length<=12:=by have:=n2.len;simp at this;omega
 have hall:∀s,s∈all↔iU d s:=fun s=>by rw[n2.mem];simp[iU,List.mem_map]
 have:=gS (l:=d) (by omega) (F:=fun m z (_:Unit)=>xM d n all m z) (fun i _=>∀x∈d.take i,yF d n x) (Q:=fun e=>e=0->∀x∈d,yF d n x)
  (fun m i x _ hx hlt hd' hw hI ih=>by
   have hxf:=(h.siz x (zX hx)).2;simp only[xM,hd',zC,c6,hx,aL];have:=gS (l:=x.Feats) (by omega) (F:=fun m' z (_:Unit)=>FD n all i (xM d n all m) x m' z) (fun k _=>∀f∈x.Feats.take k,PW n f.Feat=some true/\iU d f.Value) (Q:=fun e=>e=0->∀x∈d,yF d n x)
    (fun m' k f _ hf oP cK sF gX iT=>by
     obtain⟨r,r1⟩:=qzk f.Feat (n:=n) (by omega);simp only[FD,cK,zC,c6,hf,aL,r1];rcases r with _|_;exact⟨1,rfl,fun h=>by cases h⟩;simp only[Bool.not_true,zD];have hk:((k:Int)<=(x.Feats.length:Int)):=by omega
     have key:∀(m3 j:Nat),k-j<m3->j<=k->∃e,X2 n all x k (FD n all i (xM d n all m) x m') m3 j=some e/\(e=0->∀x∈d,yF d n x):=by
      intro m3;induction m3 with
      |zero=>intro j hm;omega|succ m3 Sw=>
       intro j hm hj;unfold X2;by_cases hjk:j<k;obtain⟨g,hg,_⟩:=dM (l:=x.Feats) (show j<x.Feats.length by omega);have e0:decide ((j:Int)<(k:Int))=true:=by simp;omega
       have e1:IntKind.i64.wrap ((j:Int)+1)=((j+1:Nat):Int):=yS (by omega) (by omega);simp only[e0,zC,c6,hg,hf,aL,e1];rcases iX g.Feat f.Feat with _|_;exact Sw (j+1) (by omega) (by omega);exact⟨4,rfl,fun h=>by cases h⟩;have e0:decide ((j:Int)<(k:Int))=false:=by simp;omega
       simp only[e0,zD,Sd,c6,hf,aL,H2 (l:=all) (by omega) f.Value (n:=n) (by omega),sF];by_cases v6:f.Value∈all;simp only[v6,yC,Bool.not_true,zD];refine iT () fun y hy=>?_;rw[gM hf]at hy;rcases yD.1 hy with hy |hy
       exact gX y hy;simp at hy;subst hy;exact⟨r1,(hall _).1 v6⟩;simp only[v6,yB,Bool.not_false,zC];exact⟨5,rfl,fun h=>by cases h⟩
     have:=key n 0 (by omega) (by omega);rw[zV]at this;exact this)
    (fun m' _ cK gX=>by
     rw[zW (zF _)]at gX;simp only[FD,cK,zD,Se,hw];refine ih () fun y hy=>?_;rw[gM hx]at hy;rcases yD.1 hy with hy |hy
     exact hI y hy;simp at hy;subst hy;exact gX) n 0 () (by omega) (by omega) (by simp)
   rw[zV]at this;exact this)
  (fun m _ hd' hI=>by rw[zW (zF _)]at hI;simp only[xM,hd',zD,Sf];exact⟨0,rfl,fun _=>hI⟩) n 0 () (by omega) (by omega) (by simp)
 rw[zV]at this;simp only[Ek,n1,aL];exact this
theorem be(h:tL d)(s:Str)(hn:5000<=n):∃r,Bx n d s=some r:=by
 have hd:=h.len;have:=gS (l:=d) (by omega) (F:=fun m z t=>HN d s n m t z) (fun i t=>eG t/\t.length<=i) (Q:=fun _=>True)
  (fun m i x t hx hlt hd' hw hI ih=>by
   obtain⟨i1,i2⟩:=hI;obtain⟨r,r1,_⟩:=su (h.siz x (zX hx)).2 s hn;simp only[HN,hd',zC,c6,hx,aL,r1,Dm,hw];cases r.2 with
   |true=>obtain⟨o,h1,h2,h3,h4⟩:=UB (l:=t) (by omega) i1 x.Name (show t.length<n by omega);simp only[zC,h1,aL];exact ih o ⟨h4,by omega⟩
   |false=>exact ih t ⟨i1,by omega⟩)
  (fun m t hd' hI=>by
   obtain⟨out,m1,m2,m3⟩:=T' h (l:=t) (by have:=hI.2;omega) hn;simp only[HN,hd',zD,Pu,m1,aL];by_cases e:(out.length:Int)=1;obtain⟨x,hx,_⟩:=dM (l:=out) (show 0<out.length by omega);have h0:a8 out 0=some x:=by rw[<-hx];exact c6 0
   simp only[e,bne_self_eq_false,zD,h0,aL];exact⟨_,rfl,trivial⟩;have:((out.length:Int) != 1)=true:=by simpa using e
   simp only[this,zC];exact⟨_,rfl,trivial⟩) n 0 [] (by omega) (by omega) ⟨List.Pairwise.nil,by simp⟩
 rw[zV]at this;obtain⟨r,h1,_⟩:=this;exact⟨r,h1⟩
theorem Nx(h:AH d l){i j:Nat}(hi:i<l.length)(hj:j<l.length)(hn:5000<=n):∃b,KL n l i j=some b:=by
 obtain⟨x,hx,hxm⟩:=dM hi;obtain⟨y,hy,hym⟩:=dM hj;obtain⟨a,a1,a2,_⟩:=h.cod x hxm;obtain⟨b,b1,b2,_⟩:=h.cod y hym;simp only[KL,c6,hx,hy,aL,a1,b1,Xq b2 a2 (show 5<=n by omega)];exact⟨_,rfl⟩
theorem qmw(h:tL d)(hl:AH d l)(hv:∀x∈d,∀f∈x.Feats,iU d f.Value){t:Nat}(ht:t<l.length)(s:Str)(hn:5000<=n):∃w b,WJ n d l t s=some (bt w,b)/\w<4096:=by
 have hd:=h.len;have hll:=hl.len;obtain⟨x0,rJ,qy⟩:=dM (l:=l) hll.2;obtain⟨w0,a1,a2,_⟩:=hl.cod x0 qy;have:=gS (l:=d) (by omega) (F:=fun m z (s':Bool×Nat)=>KT d l t s n m s'.1 (bt s'.2) z) (fun _ s'=>s'.2<4096) (Q:=fun r=>∃w b,r=(bt w,b)/\w<4096)
  (fun m i x s' hx hlt hd' hw hI ih=>by have hxm:=zX hx;obtain⟨r,r1,r2⟩:=su (h.siz x hxm).2 s hn;simp only[KT,hd',zC,c6,hx,aL,r1,hw];rcases hr:r.2 with _|_;simp only[Bool.not_false,zC,aL];exact ih s' hI;obtain⟨p,p1,p2⟩:=Xv (l:=l) (by omega) x.Name hn;obtain⟨j,rfl,hj⟩:=p2 (hl.dcl _ ⟨x,hxm,rfl⟩);obtain⟨b,b1⟩:=Nx hl hj ht hn;simp only[Bool.not_true,zD,p1,aL,b1];rcases b with _|_;simp only[Bool.not_false,zC];exact ih s' hI;obtain⟨f,hf,_,e2⟩:=r2 hr;obtain⟨q,q1,q2⟩:=Xv (l:=l) (by omega) r.1 hn;obtain⟨k,rfl,hk⟩:=q2 (hl.dcl _ (e2 ▸ hv x hxm f hf));obtain⟨y,hy,hym⟩:=dM hk;obtain⟨v,v1,v2,_⟩:=hl.cod y hym;simp only[Bool.not_true,zD,q1,aL,c6,hy,v1,yf hI v2 (show 5<=n by omega)];exact ih (true,s'.2&&&v) (Nat.lt_of_le_of_lt Nat.and_le_left hI))
  (fun m s' hd' hI=>by simp only[KT,hd',zD,Rt];exact⟨_,rfl,s'.2,s'.1,rfl,hI⟩) n 0 (false,w0) (by omega) (by omega) a2
 rw[zV]at this;obtain⟨r,h1,w,b,rfl,h2⟩:=this;have h0:a8 l 0=some x0:=by rw[<-rJ];exact c6 0
 exact⟨w,b,by simp only[WJ,h0,aL,a1];exact h1,h2⟩
structure E3(d:List bA)(n:Nat)(l:List cR)(f:List Str):Prop where
 dok:tL d
 cod:HA n d=some (l,0)
 cok:AH d l
 fea:PN n d=some f
 asc:eG f
 len:f.length<=64
 val:∀x∈d,yF d n x
 mem:∀s∈f,∃x∈d,∃y∈x.Feats,y.Feat=s
theorem B'(hd:d.length<=12)(hn:5000<=n):∃e,KF n d=some e/\(e=0->∃l f,E3 d n l f):=by
 obtain⟨l,e,c1,c2⟩:=z6e hd hn;simp only[KF,c1,aL];by_cases he:e=0;subst he;obtain⟨h,hl⟩:=c2 rfl;have hll:=hl.len;obtain⟨f,f1,f2,f3,f4⟩:=z6m hd (fun x hx=>(h.siz x hx).2) hn;simp only[bne_self_eq_false,zD,f1,aL];by_cases mX:(f.length:Int)>64;simp only[mX,yC,zC];exact⟨7,rfl,fun h=>by cases h⟩;obtain⟨e2,d1,d2⟩:=qoa h hn;simp only[mX,yB,zD,d1,aL];by_cases zw:e2=0;subst zw;have hv:=d2 rfl;have hok:E3 d n l f:=⟨h,c1,hl,f1,f2,by omega,hv,f4⟩;simp only[bne_self_eq_false,zD];have:=gS (l:=f) (by omega) (F:=fun m z (_:Unit)=>Q2 d n (l,0) f m z) (fun _ _=>True) (Q:=fun e=>e=0->∃l f,E3 d n l f)
  (fun m i s _ hs hlt hd' hw _ ih=>by obtain⟨r,r1⟩:=be h s hn;simp only[Q2,hd',zC,c6,hs,aL,r1,hw];rcases r.2 with _|_;exact⟨10,rfl,fun h=>by cases h⟩;exact ih () trivial)
  (fun m _ hd' _=>by
   simp only[Q2,hd',zD,Pz];have:=gS (l:=l) (by omega) (F:=fun m z (_:Unit)=>EZ d n (l,0) f m z) (fun _ _=>True) (Q:=fun e=>e=0->∃l f,E3 d n l f)
    (fun m t _ _ _ oP cK sF _ iT=>by
     simp only[EZ,cK,zC];have:=gS (l:=f) (by omega) (F:=fun m' z (_:Unit)=>Q1 d n (l,0) f t (EZ d n (l,0) f m) m' z) (fun _ _=>True) (Q:=fun e=>e=0->∃l f,E3 d n l f)
      (fun m' i s _ hs hlt3 XD hw3 _ Sw=>by
       obtain⟨w,b,i1,_⟩:=qmw h hl (fun x hx y hy=>(hv x hx y hy).2) oP s hn;simp only[Q1,XD,zC,c6,hs,aL,i1,hw3];rcases b with _|_;exact Sw () trivial;simp only[zC,aL];cases (((bt w).length:Int)==0)with
       |true=>exact⟨11,rfl,fun h=>by cases h⟩|false=>exact Sw () trivial)
      (fun m' _ XD _=>by simp only[Q1,XD,zD,Px,sF];exact iT () trivial) n 0 () (by omega) (by omega) trivial
     rw[zV]at this;exact this)
    (fun m _ cK _=>by simp only[EZ,cK,zD,Py];exact⟨0,rfl,fun _=>⟨l,f,hok⟩⟩) n 0 () (by omega) (by omega) trivial
   rw[zV]at this;exact this) n 0 () (by omega) (by omega) trivial
 rw[zV]at this;exact this;have:(e2 != 0)=true:=by simpa using zw
 simp only[this,zC];exact⟨e2,rfl,fun h=>absurd h zw⟩;have:(e != 0)=true:=by simpa using he
 simp only[this,zC];exact⟨e,rfl,fun h=>absurd h he⟩
theorem z6o(hl:AH d l){w:Nat}(hn:5000<=n):∃r,Bm n l (bt w)=some r:=by
 have hll:=hl.len;have:=gS (l:=l) (by omega) (F:=fun m z (_:Unit)=>PU l n (bt w) m z) (fun _ _=>True) (Q:=fun _=>True)
  (fun m i x _ hx hlt hd' hw _ ih=>by
   obtain⟨a,a1,_⟩:=hl.cod x (zX hx);simp only[PU,hd',zC,c6,hx,aL,a1,Wp (a:=a) (b:=w) (n:=n) (by omega),hw];cases decide (a=w)with
   |true=>exact⟨_,rfl,trivial⟩|false=>exact ih () trivial)
  (fun m _ hd' _=>by simp only[PU,hd',zD,Pf];exact⟨_,rfl,trivial⟩) n 0 () (by omega) (by omega) trivial
 rw[zV]at this;obtain⟨r,h1,_⟩:=this;exact⟨r,by simp only[Bm,zar (w:=w) (n:=n) (by omega),aL];exact h1⟩
theorem z5d(hd:d.length<=12)(hn:5000<=n):∃v e,VR n d=some (v,e)/\(e=0->∃l f,E3 d n l f/\v.length=l.length):=by
 obtain⟨e,c1,c2⟩:=B' hd hn;simp only[VR,c1,aL];by_cases he:e=0;subst he;obtain⟨l,f,h⟩:=c2 rfl;have hll:=h.cok.len;have hfl:=h.len;simp only[bne_self_eq_false,zD,h.cod,h.fea,aL];have:=gS (l:=l) (by omega) (F:=fun m z s=>C1 d n (l,0) f m z s) (fun i s=>s.length=i) (Q:=fun r=>r.2=0->∃l f,E3 d n l f/\r.1.length=l.length)
  (fun m t _ s _ hlt hd' hw hI ih=>by
   simp only[C1,hd',zC];have:=gS (l:=f) (by omega) (F:=fun m' z s'=>HU d n (l,0) f t s (C1 d n (l,0) f m) m' z s') (fun i s'=>s'.length<=i) (Q:=fun r=>r.2=0->∃l f,E3 d n l f/\r.1.length=l.length)
    (fun m' i x s' hx oP cK sF gX iT=>by
     obtain⟨w,b,i1,_⟩:=qmw h.dok h.cok (fun x hx y hy=>(h.val x hx y hy).2) hlt x hn;simp only[HU,cK,zC,c6,hx,aL,i1,Du,sF];cases b with
     |true=>obtain⟨r,r1⟩:=z6o h.cok (w:=w) hn;simp only[zC,r1,aL];rw[dZ (by omega)];exact iT _ (by simp;omega)
     |false=>exact iT s' (by omega))
    (fun m' s' cK gX=>by simp only[HU,cK,zD,Qx,hw];rw[dZ (by omega)];exact ih _ (by simp;omega)) n 0 [] (by omega) (by omega) (by simp)
   rw[zV]at this;exact this)
  (fun m s hd' hI=>by simp only[C1,hd',zD,Qy];exact⟨_,rfl,fun _=>⟨l,f,h,hI⟩⟩) n 0 [] (by omega) (by omega) (by simp)
 rw[zV]at this;obtain⟨r,h1,h2⟩:=this;exact⟨r.1,r.2,h1,h2⟩;have:(e != 0)=true:=by simpa using he
 simp only[this,zC];exact⟨[],e,rfl,fun h=>absurd h he⟩
theorem z09(h:AH d l){t:Nat}(ht:t<l.length)(hn:5000<=n):∃r,Om n l t=some r:=by
 have hll:=h.len;have:=gS (l:=l) (by omega) (F:=fun m z s=>xL l t n m z s) (fun i s=>s.length<=i) (Q:=fun _=>True)
  (fun m k _ s _ hlt hd' hw hI ih=>by
   obtain⟨b,b1⟩:=Nx h hlt ht hn;simp only[xL,hd',zC,b1,aL,hw];have go:∃r,KP l t n k s (xL l t n m) n true 0=some r/\True:=by
    have:=gS (l:=l) (by omega) (F:=fun m' z b=>KP l t n k s (xL l t n m) m' b z) (fun _ _=>True) (Q:=fun _=>True)
     (fun m' i _ b _ oP cK sF _ iT=>by
      obtain⟨b1,g1⟩:=Nx h hlt oP hn;obtain⟨b2,g2⟩:=Nx h oP ht hn;simp only[KP,cK,zC,sF,g1,g2,aL];rcases b with _|_;exact iT false trivial;cases ((i:Int)==(t:Int))with
      |true=>exact iT true trivial|false=>cases ((i:Int)==(k:Int))with|true=>exact iT true trivial|false=>rcases b1 with _|_;exact iT true trivial;exact iT _ trivial)
     (fun m' b cK _=>by
      simp only[KP,cK,zD,Qz,Dy,hw];cases b with
      |true=>simp only[zC];rw[dZ (by omega)];exact ih _ (by simp;omega)|false=>exact ih s (by omega)) n 0 true (by omega) (by omega) trivial
    rw[zV]at this;exact this
   cases ((k:Int)==(t:Int))with|true=>simp only[zC,aL];exact ih s (by omega)|false=>simp only[zD,aL];rcases b with _|_;simp only[Bool.not_false,zC];exact ih s (by omega);simp only[Bool.not_true,zD];exact go)
  (fun m s hd' hI=>by simp only[xL,hd',zD,Ra];exact⟨_,rfl,trivial⟩) n 0 [] (by omega) (by omega) (by simp)
 rw[zV]at this;obtain⟨r,h1,_⟩:=this;exact⟨r,h1⟩
theorem qvy(hn:5000<=n){f:List Str}(h:E3 d n l f)(hc:KF n d=some 0):∃r,Dn n d=some (r,0)/\r.map eE.Name=f:=by
 have hll:=h.cok.len;have hfl:=h.len;have:=gS (l:=f) (by omega) (F:=fun m z s=>QF d n (l,0) f m z s) (fun i s=>s.map eE.Name=f.take i) (Q:=fun r=>r.2=0/\r.1.map eE.Name=f)
  (fun m i x s hx hlt hd' hw hI ih=>by
   obtain⟨r,r1⟩:=be h.dok x hn;obtain⟨q,q1,_⟩:=Xv (l:=l) (by omega) r.1 hn;have hsl:s.length=i:=by have:=congrArg List.length hI;simp at this;omega
   simp only[QF,hd',zC,c6,hx,aL,r1,q1,hw];rw[dZ (by omega)];exact ih _ (by rw[List.map_append,hI,gM hx];rfl))
  (fun m s hd' hI=>by rw[zW (zF _)]at hI;simp only[QF,hd',zD,Rp];exact⟨_,rfl,rfl,hI⟩) n 0 [] (by omega) (by omega) (by simp)
 rw[zV]at this;obtain⟨r,h1,h2,h3⟩:=this;refine⟨r.1,?_,h3⟩;simp only[Dn,hc,aL,bne_self_eq_false,zD,h.cod,h.fea,h1];rw[<-h2]
structure Tm(d:List bA)(n:Nat)(h:cA):Prop where
 ex:∃l f,E3 d n l f/\h.Types.map dI.Code=l.map cR.Code/\h.Feats.map eE.Name=f
theorem qzg(hd:d.length<=12)(hn:5000<=n):∃h e,HG n d=some (h,e)/\(e=0->Tm d n h)/\(e≠0->h=⟨[],[]⟩):=by
 obtain⟨v,e,v1,v2⟩:=z5d hd hn;simp only[HG,v1,aL];by_cases he:e=0;subst he;obtain⟨l,f,h,hv⟩:=v2 rfl;have hll:=h.cok.len;have hc:KF n d=some 0:=by
  obtain⟨e,c1,c2⟩:=B' hd hn;by_cases h0:e=0;rw[c1,h0];have:(e != 0)=true:=by simpa using h0
  simp only[VR,c1,aL,this,zC,zA,zB]at v1;exact absurd v1.2 h0
 obtain⟨fs,g1,g2⟩:=qvy hn h hc;simp only[bne_self_eq_false,zD,h.cod,aL];have:=gS (l:=l) (by omega) (F:=fun m z s=>QD d n (v,0) (l,0) m z s) (fun i s=>s.map dI.Code=(l.take i).map cR.Code) (Q:=fun r=>r.2=0/\Tm d n r.1)
  (fun m i x s hx hlt hd' hw hI ih=>by
   obtain⟨r,r1⟩:=z09 h.cok hlt hn;obtain⟨y,hy,_⟩:=dM (l:=v) (show i<v.length by omega);have hsl:s.length=i:=by have:=congrArg List.length hI;simp at this;omega
   simp only[QD,hd',zC,c6,hx,hy,aL,r1,hw];rw[dZ (by omega)];exact ih _ (by rw[List.map_append,hI,gM hx,List.map_append];rfl))
  (fun m s hd' hI=>by rw[zW (zF _)]at hI;simp only[QD,hd',zD,Rh,g1,aL];exact⟨_,rfl,rfl,⟨l,f,h,hI,g2⟩⟩) n 0 [] (by omega) (by omega) (by simp)
 rw[zV]at this;obtain⟨r,h1,h2,h3⟩:=this;exact⟨r.1,r.2,h1,fun _=>h3,fun h=>absurd h2 h⟩;have:(e != 0)=true:=by simpa using he
 simp only[this,zC];exact⟨_,e,rfl,fun h=>absurd h he,fun _=>rfl⟩
end Go.Proofs
namespace Go.Proofs
open Go Go.Rx Go.Vx
set_option maxRecDepth 10000
structure lU(h:cA)(ws:List Nat):Prop where
 cod:h.Types.map dI.Code=ws.map bt
 ok:∀w∈ws,w≠0/\w<4611686018427387904
 nod:ws.Nodup
 cls:IP ws
 len:ws.length<=1000
 pos:0<ws.length
 fl:h.Feats.length<=1000
 top:∀w∈ws,(ws[0]?).getD 0&&&w=w
variable{h:cA}
variable{ws:List Nat}
theorem lU.tl(hh:lU h ws):h.Types.length=ws.length:=by have:=congrArg List.length hh.cod;simpa using this
theorem lU.at{h:cA}{ws:List Nat}(hh:lU h ws){i:Nat}{w:Nat}(hi:ws[i]? = some w):∃t,h.Types[i]? = some t/\t.Code=bt w:=by
 have h1:(h.Types.map dI.Code)[i]? = some (bt w):=by rw[hh.cod,List.getElem?_map,hi];rfl
 rw[List.getElem?_map]at h1;rcases e:h.Types[i]? with _|t;rw[e]at h1;cases h1;rw[e]at h1;exact⟨t,rfl,Option.some.inj h1⟩
variable{n:Nat}
theorem z65(w:Nat)(hn:5<=n):Oj n [(w:Int)]=some (bt w):=by
 obtain⟨k,rfl⟩:=Nat.exists_eq_add_of_le' hn;have e0:IntKind.i64.wrap ((1:Int)-1)=0:=wr (z:=0) (by omega) (by omega);have e1:a8 [(w:Int)] 0=some (w:Int):=rfl;have c0:oH [(w:Int)] 0 0=some []:=rfl;have c1:oH [(w:Int)] 0 1=some [(w:Int)]:=rfl;have e2:decide ((1:Int)>0)=true:=rfl;have e3:decide ((0:Int)>0)=false:=rfl;show Q9 [(w:Int)] (k+5) 1=_;rw[Q9,e2,zC,e0,e1,aL,aL];by_cases hw:w=0;have:((w:Int)==0)=true:=by simp[hw]
 rw[this,zC,Q9,e3,zD,aL,zD,Dt,c0,hw];rfl;have:((w:Int)==0)=false:=by simp[hw]
 rw[this,zD,Dt,c1,oI hw];rfl
variable{a:Nat}
variable{b:Nat}
theorem z9r(ha:a≠0/\a<4611686018427387904)(hb:b≠0/\b<4611686018427387904)(hn:5<=n):Ap n (bt a) (bt b)=some (bt (a&&&b)):=by
 obtain⟨k,rfl⟩:=Nat.exists_eq_add_of_le' hn;have h1:=IL (a:=a) (b:=b) (by omega) (by omega);have h2:=z65 (a&&&b) (n:=k+5) (by omega);rw[oI ha.1,oI hb.1];have e:Ap (k+5) [(a:Int)] [(b:Int)]=Cg [(a:Int)] [(b:Int)] (k+5) [yN .u64 (a:Int) (b:Int)]:=rfl;rw[e,h1,Cg,h2];rfl
theorem ux(ha:a≠0/\a<4611686018427387904)(hb:b≠0/\b<4611686018427387904)(hn:5<=n):VP n (bt a) (bt b)=some (decide (a&&&b=a)):=by
 obtain⟨k,rfl⟩:=Nat.exists_eq_add_of_le' hn;obtain⟨c,h1,h2⟩:=Fd (a:=a) (b:=b) (by omega) (by omega);rw[oI ha.1,oI hb.1];have e:VP (k+5) [(a:Int)] [(b:Int)]=cond ((JX .u64 (a:Int) (b:Int)) != 0) (some false) (some true):=rfl;rw[e,h1];by_cases hc:c=0;have:=h2.1 hc;simp[hc,this];have:¬ a&&&b=a:=fun q=>hc (h2.2 q);have h3:((c:Int) != 0)=true:=by simpa using hc
 simp[this,h3]
theorem T9(ha:a≠0/\a<4611686018427387904)(hb:b≠0/\b<4611686018427387904)(hn:5<=n):Bq n (bt a) (bt b)=some (decide (a=b)):=by
 rw[Bq,ux ha hb hn,ux hb ha hn];by_cases h:a&&&b=a;by_cases h':b&&&a=b;have:a=b:=by rw[<-h,Nat.and_comm,h']
 simp[h,h',this,aL];have:a≠b:=fun e=>h' (by rw[<-e,Nat.and_self]);simp[h,h',this,aL];have:a≠b:=fun e=>h (by rw[<-e,Nat.and_self]);simp[h,this,aL]
theorem vd{h:cA}{ws:List Nat}(hh:lU h ws){c:Nat}(hc:c∈ws){n:Nat}(hn:5<=n):∀(m i:Nat),ws.length-i<m->i<=ws.length->(∀(k:Nat),k<i->ws[k]? ≠some c)->∃k:Nat,X5 h.Types (bt c) (VO n) m (i:Int)=some (k:Int)/\ws[k]? = some c
 |0,i,hm,_,_=>by omega
 |m+1,i,hm,hi,hno=>by
  have hl:=hh.tl;have hln:=hh.len;obtain⟨q,hq⟩:=List.mem_iff_getElem?.1 hc;have I5:=(zG.1 hq).1;have hlt:i<ws.length:=by rcases Nat.lt_or_ge q i with h1 |h1;exact absurd hq (hno q h1);omega
  obtain⟨w,hw,hwm⟩:=dM hlt;obtain⟨t,ht,he⟩:=hh.at hw;have h1:=T9 (hh.ok w hwm) (hh.ok c hc) hn;simp only[X5,hl,fO hlt,zC,c6,ht,aL,VO,he,h1];by_cases e:w=c;simp only[e,yC,zC];exact⟨i,rfl,by rw[hw,e]⟩;simp only[e,yB,zD,gI hlt (show ws.length<=9223372036854775807 by omega)];exact vd hh hc hn m (i+1) (by omega) (by omega) (fun k hk=>by by_cases e2:k=i;subst e2;rw[hw];intro q;exact e (Option.some.inj q);exact hno k (by omega))
theorem zam(hh:lU h ws){i j:Nat}(hi:ws[i]? = some a)(hj:ws[j]? = some b)(hn:2000<=n):
  (a&&&b=0->A6 n h (i:Int) (j:Int)=some (0,false))/\(a&&&b≠0->∃k:Nat,A6 n h (i:Int) (j:Int)=some ((k:Int),true)/\ws[k]? = some (a&&&b)):=by
 obtain⟨t,ht,he⟩:=hh.at hi;obtain⟨t',ht',he'⟩:=hh.at hj;have ham:=zX hi;have hbm:=zX hj;have h1:=z9r (hh.ok a ham) (hh.ok b hbm) (n:=n) (by omega);simp only[A6,c6,ht,ht',aL,he,he',h1];constructor;intro h0;rw[h0];rfl;intro h0;have h2:=hh.cls a ham b hbm h0;obtain⟨k,h3,h4⟩:=vd hh h2 (n:=n) (by omega) n 0 (by have:=hh.len;omega) (by omega) (fun k hk=>by omega);rw[zV]at h3;have e1:(((bt (a&&&b)).length:Int)==0)=false:=by rw[oI h0];rfl
 have e2:decide ((k:Int)<0)=false:=by simp
 simp only[e1,zD,Sk,h3,aL,e2];exact⟨k,rfl,h4⟩
def dS(ws:List Nat)(t:Int):Nat:=(ws[t.toNat]?).getD 0
theorem EJ{t:Int}(h:0<=t/\t<(ws.length:Int)):ws[t.toNat]? = some (dS ws t):=by
 have:t.toNat<ws.length:=by omega
 rw[dS,List.getElem?_eq_getElem this];rfl
theorem Fg(hh:lU h ws){s t:Int}(hs:0<=s/\s<(ws.length:Int))(ht:0<=t/\t<(ws.length:Int))(hn:2000<=n):
  ∃r,A6 n h s t=some r/\(r.2=false->dS ws s&&&dS ws t=0)/\(r.2=true->(0<=r.1/\r.1<(ws.length:Int))/\dS ws r.1=dS ws s&&&dS ws t):=by
 obtain⟨h1,h2⟩:=zam hh (EJ hs) (EJ ht) hn;rw[show((s.toNat:Nat):Int)=s by omega,show((t.toNat:Nat):Int)=t by omega]at h1 h2;by_cases e:dS ws s&&&dS ws t=0;exact⟨_,h1 e,fun _=>e,fun q=>by cases q⟩;obtain⟨k,h3,h4⟩:=h2 e;refine⟨_,h3,(fun q=>by cases q),fun _=>⟨?_,?_⟩⟩;have:=(zG.1 h4).1;constructor;exact Int.natCast_nonneg _;show(k:Int)<_;omega;show dS ws (k:Int)=_;rw[dS,zZ,h4];rfl
def celN(c:List aO)(i:Nat):aO:=(c[i]?).getD ⟨-1,0,[]⟩
def jB(mt:Int->Int->Option Int):Nat->List (Int×Int)->List aO->(Nat->Nat)->(Nat->Nat)->Bool×List aO×(Nat->Nat)×(Nat->Nat)
 |0,_,c,rep,d=>(true,c,rep,d)|_+1,[],c,rep,d=>(true,c,rep,d)
 |k+1,p::W,c,rep,d=>
  if rep p.1.toNat=rep p.2.toNat then jB mt k W c rep d else
  match mt (celN c (rep p.1.toNat)).kind (celN c (rep p.2.toNat)).kind with
  |none=>(false,c,rep,d)|some t=>jB mt k ((prs (celN c (rep p.1.toNat)).arcs (celN c (rep p.2.toNat)).arcs).reverse++W) (rW c (rep p.1.toNat) (rep p.2.toNat) t (BN (celN c (rep p.1.toNat)).arcs (celN c (rep p.2.toNat)).arcs)) (fA rep (rep p.1.toNat) (rep p.2.toNat)) (yM rep d (rep p.2.toNat))
def uC(n:Nat)(h:cA)(s t:Int):Option Int:=match A6 n h s t with
 |some (r,true)=>some r|_=>none
def ZK(N:Nat)(p:Int×Int):Prop:=(0<=p.1/\p.1<(N:Int))/\(0<=p.2/\p.2<(N:Int))
theorem kO.celN{N D:Nat}{FB TB:Int}{cells:List aO}{rep d:Nat->Nat}(h:kO N D FB TB cells rep d){i:Nat}(hi:i<N):cells[i]? = some (celN cells i):=by
 have h1:=h.len;rw[Go.Proofs.celN,List.getElem?_eq_getElem (by omega)];rfl
variable{N:Nat}
variable{FB:Int}
theorem QL{a b:List aF}(ha:rG N FB a)(hb:rG N FB b):∀p∈prs a b,ZK N p:=fun p hp=>by
 obtain⟨x,hx,y,hy,_,rfl⟩:=Vu hp;exact⟨(ha.ok x hx).2.2,(hb.ok y hy).2.2⟩
structure Rnd(N D:Nat)(FB TB:Int)(W:List (Int×Int))(c:List aO)(rep d:Nat->Nat):Prop where
 hp:kO N D FB TB c rep d
 wi:∀p∈W,ZK N p
variable{D:Nat}
variable{TB:Int}
variable{W:List (Int×Int)}
variable{p:Int×Int}
variable{c:List aO}
variable{rep:Nat->Nat}
variable{d:Nat->Nat}
theorem Rnd.skip(h:Rnd N D FB TB (p::W) c rep d):Rnd N D FB TB W c rep d:=⟨h.hp,fun q hq=>h.wi q (List.mem_cons_of_mem _ hq)⟩
structure Two(N:Nat)(FB TB:Int)(c:List aO)(rep:Nat->Nat)(m n:Nat):Prop where
 hm:m<N
 hn:n<N
 em:rep m=m
 en:rep n=n
 cm:c[m]? = some (celN c m)
 cn:c[n]? = some (celN c n)
 am:rG N FB (celN c m).arcs
 an:rG N FB (celN c n).arcs
 km:0<=(celN c m).kind/\(celN c m).kind<TB
 kn:0<=(celN c n).kind/\(celN c n).kind<TB
theorem Rnd.two(h:Rnd N D FB TB (p::W) c rep d):Two N FB TB c rep (rep p.1.toNat) (rep p.2.toNat):=by
 obtain⟨h1,h2⟩:=h.wi p (by simp);have l1:=h.hp.rok.lt p.1.toNat (by omega);have l2:=h.hp.rok.lt p.2.toNat (by omega);have c1:=h.hp.celN l1;have c2:=h.hp.celN l2;exact⟨l1,l2,h.hp.rok.idem _ (by omega),h.hp.rok.idem _ (by omega),c1,c2,h.hp.ar _ _ c1,h.hp.ar _ _ c2,h.hp.kd _ _ c1,h.hp.kd _ _ c2⟩
theorem Rnd.next(h:Rnd N D FB TB (p::W) c rep d)(hne:rep p.1.toNat≠rep p.2.toNat){t:Int}(ht:0<=t/\t<TB):
  Rnd N (D+1) FB TB ((prs (celN c (rep p.1.toNat)).arcs (celN c (rep p.2.toNat)).arcs).reverse++W) (rW c (rep p.1.toNat) (rep p.2.toNat) t (BN (celN c (rep p.1.toNat)).arcs (celN c (rep p.2.toNat)).arcs)) (fA rep (rep p.1.toNat) (rep p.2.toNat)) (yM rep d (rep p.2.toNat)):=by
 have T:=h.two;have hM:=PK _ _ T.am.up T.an.up;refine⟨h.hp.mrg T.hm T.hn T.em T.en hne (hM.ok T.am T.an) ht,fun q hq=>?_⟩;rcases yD.1 hq with hq |hq;exact QL T.am T.an q (List.mem_reverse.1 hq);exact h.wi q (List.mem_cons_of_mem _ hq)
theorem Two.tot{N:Nat}{FB TB:Int}{c:List aO}{rep:Nat->Nat}{m n:Nat}(T:Two N FB TB c rep m n)(hne:m≠n)(t:Int)(W:List (Int×Int)):((prs (celN c m).arcs (celN c n).arcs).reverse++W).length+tot (rW c m n t (BN (celN c m).arcs (celN c n).arcs))=W.length+tot c:=by
 have:=zbb T.cm T.cn hne t (PK _ _ T.am.up T.an.up);simp only[zU,List.length_reverse];omega
def stk(W:List (Int×Int)):List fE:=(W.map pk).reverse
theorem z7y(p:Int×Int)(W:List (Int×Int)):stk (p::W)=stk W++[pk p]:=by simp[stk]
theorem zb8(W:List (Int×Int))(l:List (Int×Int)):stk W++l.map pk=stk (l.reverse++W):=by simp[stk]
theorem yn(W:List (Int×Int)):(stk W).length=W.length:=by simp[stk]
theorem jz{α:Type}(l:List α)(x:α)(hl:l.length<=1000000000):decide (((l++[x]).length:Int)>0)=true/\IntKind.i64.wrap (((l++[x]).length:Int)-1)=(l.length:Int)/\a8 (l++[x]) (l.length:Int)=some x/\(l++[x]).take l.length=l:=by
 refine⟨by simp,?_,?_,by simp⟩;simp only[zU,zO,zS];exact yS (by omega) (by omega);rw[c6];simp
theorem Lh{h:cA}{ws:List Nat}(hh:lU h ws){s t:Int}(hs:0<=s/\s<(ws.length:Int))(ht:0<=t/\t<(ws.length:Int)){n:Nat}(hn:2000<=n):
  (uC n h s t=none/\(∃r,A6 n h s t=some r/\r.2=false)/\dS ws s&&&dS ws t=0)\/(∃r,uC n h s t=some r/\A6 n h s t=some (r,true)/\(0<=r/\r<(ws.length:Int))/\dS ws r=dS ws s&&&dS ws t):=by
 obtain⟨⟨r,b⟩,h1,h2,h3⟩:=Fg hh hs ht hn;rcases b with _|_;exact .inl ⟨by rw[uC,h1],⟨_,h1,rfl⟩,h2 rfl⟩;exact .inr ⟨r,by rw[uC,h1],h1,(h3 rfl).1,(h3 rfl).2⟩
theorem Vm{mt:Int->Int->Option Int}{N:Nat}{FB TB:Int}(hmt:∀s t r,(0<=s/\s<TB)->(0<=t/\t<TB)->mt s t=some r->0<=r/\r<TB):∀(k:Nat)(W:List (Int×Int))(c:List aO)(rep d:Nat->Nat)(D:Nat),Rnd N D FB TB W c rep d->W.length+tot c<k->
  ∃D',D'+tot (jB mt k W c rep d).2.1<=D+W.length+tot c/\kO N D' FB TB (jB mt k W c rep d).2.1 (jB mt k W c rep d).2.2.1 (jB mt k W c rep d).2.2.2
 |0,W,c,rep,d,D,h,hk=>by omega
 |k+1,[],c,rep,d,D,h,hk=>⟨D,by simp[jB],h.hp⟩|k+1,p::W,c,rep,d,D,h,hk=>by simp only[zO]at hk ⊢;unfold jB;by_cases e:rep p.1.toNat=rep p.2.toNat;rw[if_pos e];obtain⟨D',h1,h2⟩:=Vm hmt k W c rep d D h.skip (by omega);exact⟨D',by omega,h2⟩;rw[if_neg e];have T:=h.two;rcases hm:mt (celN c (rep p.1.toNat)).kind (celN c (rep p.2.toNat)).kind with _|t;exact⟨D,by simp,h.hp⟩;have ht:=hmt _ _ _ T.km T.kn hm;have hT:=T.tot e t W;obtain⟨D',h1,h2⟩:=Vm hmt k _ _ _ _ (D+1) (h.next e ht) (by omega);exact⟨D',by simp only;omega,h2⟩
theorem Ur{p7:List bC}(hp:p7.length<=1000000){N:Nat}:∀(m:Nat)(tl:List bC)(c:List aO),tl.length<m->tl.length<=1000000->c.length=N->(∀x∈tl,0<=x.atx/\x.atx<(N:Int))->WY (p7.length:Int) m c (p7++tl)=some (n7 tl c,p7)
 |0,tl,c,hm,_,_,_=>by omega
 |m+1,tl,c,hm,hl,hc,ht=>by
  unfold WY;rcases List.eq_nil_or_concat tl with e |⟨tl,x,e⟩;subst e;have:decide (((p7++[]).length:Int)>(p7.length:Int))=false:=by simp
  rw[this,zD,Sa,List.append_nil];rfl;rw[List.concat_eq_append]at e;subst e;rw[<-zT];simp only[zU,zO,zS]at hm hl;obtain⟨h1,h2,h3,h4⟩:=jz (p7++tl) x (by simp only[zU];omega);have hx:=ht x (by simp);have h5:decide (((p7++tl++[x]).length:Int)>(p7.length:Int))=true:=by simp;omega
  obtain⟨y,hy,_⟩:=dM (l:=c) (show x.atx.toNat<c.length by omega);have h6:a8 c x.atx=some y:=by rw[show x.atx=((x.atx.toNat:Nat):Int) by omega,c6];exact hy
  rw[h5,zC,h2,h3,aL,h6,aL,aB,if_pos (by simp only[zU,zO,zS];omega),aB,if_pos (by simp only[zU,zO,zS,zZ];omega),zZ,h4,Nat.zero_add,Xj];exact Ur hp m tl _ (by omega) (by omega) (by simp[hc]) (fun z hz=>ht z (List.mem_append_left _ hz))
theorem T7{N:Nat}{FB TB:Int}{c:List aO}{rep:Nat->Nat}{m n:Nat}(T:Two N FB TB c rep m n)(hne:m≠n)(t:Int)(o:List aF)(tl:List bC):n7 ((tl++[⟨(m:Int),celN c m⟩])++[⟨(n:Int),celN c n⟩]) (rW c m n t o)=n7 tl c:=by
 rw[Xj,Xj];have h1:(c.set m ⟨-1,t,o⟩)[n]? = some (celN c n):=by rw[List.getElem?_set_ne hne];exact T.cn
 simp only[zZ,rW];rw[pg h1,pg T.cm]
theorem Uk{h:cA}{ws:List Nat}(hh:lU h ws){N:Nat}{FB:Int}(J:FB<=1000000000){n:Nat}(hn:100000<=n){p7:List bC}(hp7:p7.length<=100000)(p9:List cN)(c0:List aO):∀(k:Nat)(W:List (Int×Int))(c:List aO)(rep d:Nat->Nat)(D:Nat)(tl:List bC)(t:Nat),
  Rnd N D FB ws.length W c rep d->W.length+tot c<k->D+W.length+tot c<=20000->(∀x∈tl,0<=x.atx/\x.atx<(N:Int))->n7 tl c=c0->tl.length+2*(W.length+tot c)<=90000->
  ((jB (uC n h) k W c rep d).1=true->∃tl' t',FE h.Types h.Feats p7 p9 n k (stk W) c (p7++tl) t=some (true,(jB (uC n h) k W c rep d).2.1,p7++tl',t')/\n7 tl' (jB (uC n h) k W c rep d).2.1=c0/\(∀x∈tl',0<=x.atx/\x.atx<(N:Int))/\tl'.length+2*tot (jB (uC n h) k W c rep d).2.1<=tl.length+2*(W.length+tot c))/\
  ((jB (uC n h) k W c rep d).1=false->∃t',FE h.Types h.Feats p7 p9 n k (stk W) c (p7++tl) t=some (false,c0,p7,t'))
 |0,W,c,rep,d,D,tl,t,hr,hk,_,_,_,_=>by omega
 |k+1,[],c,rep,d,D,tl,t,hr,hk,hD,hat,hbk,htl=>by have e:decide (((stk []).length:Int)>0)=false:=rfl;simp only[jB,FE,e,zD,Sh];exact⟨fun _=>⟨tl,t,rfl,hbk,hat,by simp⟩,fun q=>by cases q⟩
 |k+1,p::W,c,rep,d,D,tl,t,hr,hk,hD,hat,hbk,htl=>by
  simp only[zO]at hk hD htl;obtain⟨AA,uF⟩:=hr.wi p (by simp);obtain⟨h1,h2,h3,h4⟩:=jz (stk W) (pk p) (by rw[yn];omega);have f1:=Wz hr.hp (n:=n) (by omega) AA h.Types h.Feats (p7++tl) p9;have f2:=Wz hr.hp (n:=n) (by omega) uF h.Types h.Feats (p7++tl) p9;have hlen:=yn W;rw[z7y];unfold FE;simp only[h1,h2,h3,zC,aL,zZ,h4];rw[aB,if_pos (by simp only[zU,zO,zS];omega),aB,if_pos (by simp only[zU,zO,zS];omega)];simp only[pk,f1,f2,aL];unfold jB;by_cases e:rep p.1.toNat=rep p.2.toNat;have e1:(rI rep p.1==rI rep p.2)=true:=by simp[rI,e]
  simp only[e1,zC];rw[if_pos e];have:=Uk hh J hn hp7 p9 c0 k W c rep d D tl t hr.skip (by omega) (by omega) hat hbk (by omega);refine⟨fun q=>?_,this.2⟩;obtain⟨tl',t',r1,r2,r3,r4⟩:=this.1 q;exact⟨tl',t',r1,r2,r3,by simp only[zO];omega⟩;have e1:(rI rep p.1==rI rep p.2)=false:=by simp only[rI,beq_eq_false_iff_ne];omega
  have T:=hr.two;have i1:a8 c (rI rep p.1)=some (celN c (rep p.1.toNat)):=by rw[rI,c6];exact T.cm
  have i2:a8 c (rI rep p.2)=some (celN c (rep p.2.toNat)):=by rw[rI,c6];exact T.cn
  simp only[e1,zD,i1,i2,aL];rw[if_neg e];have hcl:=hr.hp.len;rcases Lh hh T.km T.kn (n:=n) (by omega)with⟨m1,⟨⟨q1,q2⟩,m2,m3⟩,_⟩|⟨r,m1,m2,m3,_⟩;simp only at m3;subst m3;have hb:=Ur (p7:=p7) (by omega) n tl c (by omega) (by omega) hcl hat;have v6:A6 n (cA.mk h.Types h.Feats) (celN c (rep p.1.toNat)).kind (celN c (rep p.2.toNat)).kind=some (q1,false):=m2;simp only[m1,v6,aL,Bool.not_false,zC,WS,hb,hbk];exact⟨(fun q=>by cases q),fun _=>⟨t,rfl⟩⟩;have v6:A6 n (cA.mk h.Types h.Feats) (celN c (rep p.1.toNat)).kind (celN c (rep p.2.toNat)).kind=some (r,true):=m2;have ta:=UO T.cm;have tb:=UO T.cn;obtain⟨o,j1,j2⟩:=Wy T.am T.an J (by omega) (by omega) (n:=n) (by omega) n 0 (celN c (rep p.1.toNat)).arcs (by omega) (by omega) (nP.nilr T.am.up);rw[zV,List.take_zero,z42,List.map_nil]at j1;have j3:=j2.uniq (PK _ _ T.am.up T.an.up);have jc:Ed n (celN c (rep p.1.toNat)).arcs=some (celN c (rep p.1.toNat)).arcs:=by
   rw[Ed];cases hL:(celN c (rep p.1.toNat)).arcs with
   |nil=>first |rfl |(simp[bothL,hL])
   |cons x l=>rw[bothL];simp only[zC,zD];rw[hL]at ta;rw[aB,if_pos (by omega)]
  have jj:Ch n (celN c (rep p.1.toNat)).arcs (celN c (rep p.2.toNat)).arcs=some (o,(prs (celN c (rep p.1.toNat)).arcs (celN c (rep p.2.toNat)).arcs).map pk):=by rw[Ch,jc,aL,j1]
  have e2:(c.set (0+(rI rep p.1).toNat) (aO.mk (-1) r o))[rep p.2.toNat]? = some (celN c (rep p.2.toNat)):=by rw[rI,zZ,Nat.zero_add,List.getElem?_set_ne e];exact T.cn
  have i3:a8 (c.set (0+(rI rep p.1).toNat) (aO.mk (-1) r o)) (rI rep p.2)=some (celN c (rep p.2.toNat)):=by rw[show rI rep p.2=((rep p.2.toNat:Nat):Int)from rfl,c6];exact e2
  simp only[m1,v6,aL,Bool.not_true,zD,jj,Rn,Rm,i1];rw[aB,if_pos (by simp only[zU];omega)];simp only[aL,i3];rw[aB,if_pos (by simp only[zU,zO,zS];omega)];have hpl:=US (celN c (rep p.1.toNat)).arcs (celN c (rep p.2.toNat)).arcs;simp only[aL];rw[aB,if_pos (by simp only[yA];omega)];have hT:=T.tot e r W;have ih:=Uk hh J hn hp7 p9 c0 k _ _ _ _ (D+1) ((tl++[⟨rI rep p.1,celN c (rep p.1.toNat)⟩])++[⟨rI rep p.2,celN c (rep p.2.toNat)⟩]) (t+1+1) (hr.next e m3) (by omega) (by omega)
   (fun x hx=>by simp only[yD,zI,List.not_mem_nil,or_false]at hx;rcases hx with(hx |hx)|hx;exact hat x hx;subst hx;exact hr.hp.rI AA;subst hx;exact hr.hp.rI uF)
   ((T7 T e r _ tl).trans hbk) (by simp only[zU,zO,zS];simp only[zU]at hT;omega)
  have ea:p7++tl++[⟨rI rep p.1,celN c (rep p.1.toNat)⟩]++[⟨rI rep p.2,celN c (rep p.2.toNat)⟩]=p7++((tl++[⟨rI rep p.1,celN c (rep p.1.toNat)⟩])++[⟨rI rep p.2,celN c (rep p.2.toNat)⟩]):=by simp
  have ec:(c.set (0+(rI rep p.1).toNat) (aO.mk (-1) r o)).set (0+(rI rep p.2).toNat) (aO.mk (rI rep p.1) 0 [])=rW c (rep p.1.toNat) (rep p.2.toNat) r (BN (celN c (rep p.1.toNat)).arcs (celN c (rep p.2.toNat)).arcs):=by simp[rW,rI,j3]
  rw[ea,ec,zb8];refine⟨fun q=>?_,ih.2⟩;obtain⟨tl',t',r1,r2,r3,r4⟩:=ih.1 q;refine⟨tl',t',r1,r2,r3,?_⟩;simp only[zU,zO,zS]at r4 hT ⊢;omega
theorem uc{N D B:Nat}{FB TB:Int}{cells:List aO}{rep d:Nat->Nat}(h:kO N D FB TB cells rep d)(hB:tot cells<=B)(hB2:B<=20000)(hN:N<=1000)(hD:D<=20000)(p2:List dI)(p3:List eE)(p9:List bC)(gT:List cN):∀(n:Nat)(s:List Int×List aI)(v:Int)(w:i8 Int Int)(t:Nat),Sn N B s->(0<=v/\v<(N:Int))->Rep w s.1->N-s.1.length+20001<n->
  ∃w' t',KU n v p2 p3 w s.2 t cells p9 gT=some ((vis cells rep n s v).1,w',(vis cells rep n s v).2.2,t')/\Rep w' (vis cells rep n s v).2.1
 |0,s,v,w,t,hs,hv,hw,hn=>by omega
 |n+1,s,v,w,t,hs,hv,hw,hn=>by
  have hf:=Wz h (n:=n) (by omega) hv p2 p3 p9 gT;have hr:=h.rI hv;have hle:=hs.le;show ∃w' t',Si n (KU n) v p2 p3 w s.2 t cells p9 gT=_/\_;simp only[Si,hf,aL,hw.mget];unfold vis;by_cases hm:rI rep v∈s.1;simp only[hm,if_true,Option.isSome_some,zC,Option.getD_some];exact⟨w,t,rfl,hw⟩;have hc:=h.cel hr;have hci:a8 cells (rI rep v)=some (mD cells (rI rep v)):=by rw[show rI rep v=(((rI rep v).toNat:Nat):Int) by omega,c6];exact hc
  have har:=h.ar _ _ hc;have hta:=UO hc;have sG:=hs.snoc hr hm (mD cells (rI rep v)).kind;have xW:=sG.le;simp only[zU,zO,zS]at xW;have hlen:=hs.len;simp only[hm,if_false,Option.isSome_none,zD,hci,aL];rw[aB,if_pos (by omega)];have hto:∀a∈(mD cells (rI rep v)).arcs,0<=a.To/\a.To<(N:Int):=fun a ha=>(har.ok a ha).2.2;have key:∀(m i:Nat)(acc:List aF)(s':List Int×List aI)(w:i8 Int Int)(t:Nat),(mD cells (rI rep v)).arcs.length-i<m->i<=(mD cells (rI rep v)).arcs.length->acc.length=i->Sn N B s'->s.1.length+1<=s'.1.length->Rep w s'.1->
    ∃w' t',X4 p2 p3 s.2 cells p9 gT (mD cells (rI rep v)) (KU n) m (i:Int) acc w s'.2 t=En s.2 (qG (vis cells rep n) ((mD cells (rI rep v)).arcs.drop i) s' acc).1 w' (qG (vis cells rep n) ((mD cells (rI rep v)).arcs.drop i) s' acc).2.2 t'/\Rep w' (qG (vis cells rep n) ((mD cells (rI rep v)).arcs.drop i) s' acc).2.1/\Sn N B (qG (vis cells rep n) ((mD cells (rI rep v)).arcs.drop i) s' acc).2/\s.1.length+1<=(qG (vis cells rep n) ((mD cells (rI rep v)).arcs.drop i) s' acc).2.1.length:=by
   intro m;induction m with
   |zero=>intro i acc s' w t hm;omega|succ m ih=>intro i acc s' w t hm hi ha hs' hl' hw';unfold X4;by_cases hlt:i<(mD cells (rI rep v)).arcs.length;obtain⟨a,hga,ham⟩:=dM hlt;have hat:=hto a ham;have hle':=hs'.le;obtain⟨w1,t1,g1,g2⟩:=uc h hB hB2 hN hD p2 p3 p9 gT n s' a.To w t hs' hat hw' (by omega);obtain⟨q1,q2,q3⟩:=Tz h hB n s' a.To hs' hat (by omega);simp only[fO hlt,zC,c6,hga,aL,g1,gI hlt (show(mD cells (rI rep v)).arcs.length<=9223372036854775807 by omega)];rw[aB,if_pos (by omega),aQ hga,qG];exact ih (i+1) _ _ w1 t1 (by omega) (by omega) (by simp[ha]) q1 (by omega) g2;rw[bG hlt];simp only[fX hlt,zD,qG];exact⟨w,t,rfl,hw',hs',hl'⟩
  obtain⟨w1,t1,g1,g2,g3,g4⟩:=key n 0 [] (s.1++[rI rep v],s.2++[⟨(mD cells (rI rep v)).kind,[]⟩]) (vT (fun a b=>a==b) w (rI rep v) (s.2.length:Int)) (t+1) (by omega) (by omega) rfl sG (by simp) (by rw[hlen];exact hw.snoc hm);rw[zV]at g1;rw[List.drop_zero]at g1 g2 g3 g4;rw[g1];refine⟨w1,t1,?_,g2⟩;obtain⟨x,hx,_⟩:=dM (l:=(qG (vis cells rep n) (mD cells (rI rep v)).arcs (s.1++[rI rep v],s.2++[⟨(mD cells (rI rep v)).kind,[]⟩]) []).2.2) (show s.2.length<_ by have:=g3.len;omega);simp only[En,c6,hx,aL,Nat.zero_add,zZ,TT,<-hlen,zM,Option.getD_some]
def OH(n:Nat)(cells:List aO)(rep:Nat->Nat)(v:Int):aW:=⟨(vis cells rep n ([],[]) v).2.2⟩
theorem Vs{N D:Nat}{FB TB:Int}{cells:List aO}{rep d:Nat->Nat}(h:kO N D FB TB cells rep d)(hB:tot cells<=20000)(hN:N<=1000)(hD:D<=20000){n:Nat}(hn:30000<=n){v:Int}(hv:0<=v/\v<(N:Int))(p2:List dI)(p3:List eE)(p9:List bC)(gT:List cN):
  vY n v p2 p3 cells p9 gT=some (OH n cells rep v,true):=by
 have hl:=h.len;obtain⟨w',t',g1,_⟩:=uc h hB (by omega) hN hD p2 p3 p9 gT n ([],[]) v yK 0 (Sn.nil N 20000) hv Rep.nil (by simp;omega);have e1:decide (v<0)=false:=by simp;omega
 have e2:decide (v>=(cells.length:Int))=false:=by simp;omega
 simp only[vY,e1,e2,zD,aL,g1,OH]
structure yO(h:cA)(f:aW):Prop where
 sm:cD f 12
 ne:0<f.Nodes.length
 nok:∀x∈f.Nodes,(0<=x.Typex/\x.Typex<(h.Types.length:Int))/\rG f.Nodes.length (h.Feats.length:Int) x.Arcs
 can:mG f 0=f
 gok:tK f
theorem ya{h:cA}{z:Int}{rc:Int->Option Int}{x:aI}{Q:Prop}(hx:x.Arcs.length<=12)(hr:∃r,rc (IntKind.i64.wrap (z+1))=some r/\(r=0->Q)):∀(m k:Nat),x.Arcs.length-k<m->k<=x.Arcs.length->∃r,W9 h z rc x m (k:Int)=some r/\(r=0->Q/\∀a∈x.Arcs.drop k,a.Feat<(h.Feats.length:Int))
 |0,k,hm,_=>by omega
 |m+1,k,hm,hk=>by unfold W9;by_cases hlt:k<x.Arcs.length;obtain⟨a,ha,_⟩:=dM hlt;simp only[fO hlt,zC,c6,ha,aL,gI hlt (show x.Arcs.length<=9223372036854775807 by omega)];by_cases hf:a.Feat>=(h.Feats.length:Int);simp only[hf,yC,zC];exact⟨_,rfl,fun q=>by cases q⟩;simp only[hf,yB,zD];obtain⟨r,r1,r2⟩:=ya hx hr m (k+1) (by omega) (by omega);refine⟨r,r1,fun q=>⟨(r2 q).1,fun b hb=>?_⟩⟩;rw[aQ ha]at hb;rcases zI.1 hb with rfl |hb;omega;exact(r2 q).2 b hb;simp only[fX hlt,zD,Pr,bG hlt];obtain⟨r,r1,r2⟩:=hr;exact⟨r,r1,fun q=>⟨r2 q,fun a ha=>by cases ha⟩⟩
theorem yb{h:cA}{f:aW}{n:Nat}{r3:aW×Int}{Q:Prop}(hs:cD f 12)(hn:12<n)(hk:∃r,WA f n r3=some r/\(r=0->Q)):∀(m i:Nat),f.Nodes.length-i<m->i<=f.Nodes.length->∃r,KJ h f n r3 m (i:Int)=some r/\(r=0->Q/\∀x∈f.Nodes.drop i,x.Typex<(h.Types.length:Int)/\∀a∈x.Arcs,a.Feat<(h.Feats.length:Int))
 |0,i,hm,_=>by omega
 |m+1,i,hm,hi=>by have hnl:=hs.nodes;unfold KJ;by_cases hlt:i<f.Nodes.length;obtain⟨x,hx,hxm⟩:=dM hlt;have hxl:=hs.arcs x hxm;simp only[fO hlt,zC,c6,hx,aL];by_cases ht:x.Typex>=(h.Types.length:Int);simp only[ht,yC,zC];exact⟨_,rfl,fun q=>by cases q⟩;simp only[ht,yB,zD];have ih:=yb (h:=h) hs hn hk m (i+1) (by omega) (by omega);rw[<-gI hlt (show f.Nodes.length<=9223372036854775807 by omega)]at ih;obtain⟨r,r1,r2⟩:=ya (h:=h) (z:=(i:Int)) (x:=x) hxl ih n 0 (by omega) (by omega);rw[zV]at r1;refine⟨r,r1,fun q=>?_⟩;obtain⟨⟨q1,q2⟩,q3⟩:=r2 q;refine⟨q1,fun y hy=>?_⟩;rw[aQ hx]at hy;rcases zI.1 hy with rfl |hy;exact⟨by omega,by rw[List.drop_zero]at q3;exact q3⟩;exact q2 y hy;simp only[fX hlt,zD,bG hlt];obtain⟨r,r1,r2⟩:=hk;exact⟨r,r1,fun q=>⟨r2 q,fun a ha=>by cases ha⟩⟩
variable{n:Nat}
theorem SW'{f:aW}(hs:cD f 12)(h:cA)(hn:3000000<=n):∃r,VH n h f=some r/\(r=0->yO h f):=by
 have h2:=qwm hs (by omega) (n:=n) (show 2*12+4<=n by omega);by_cases e:AQ f=0;rw[if_pos e]at h2;obtain⟨g1,g2,g3⟩:=tu.1 e;have hin:pM f 0:=⟨by omega,by omega⟩;have hsm:=hs.canon g3 (r:=0) hin
 have q2:=pq (f:=f) (g:=⟨(mG f 0).Nodes⟩) (n:=n) (hs.up (by omega)) (hsm.up (by omega)) hn;have hk:∃r,WA f n (mG f 0,0)=some r/\(r=0->f=mG f 0):=by simp only[WA,q2,aL];cases hb:(T0 f ⟨(mG f 0).Nodes⟩==0);exact⟨_,rfl,fun q=>by cases q⟩;exact⟨_,rfl,fun _=>bp.1 (by simpa using hb)⟩
 obtain⟨r,r1,r2⟩:=yb (h:=h) hs (by omega) hk n 0 (by have:=hs.nodes;omega) (by omega);rw[zV]at r1;refine⟨r,by simp only[VH,h2,aL];exact r1,fun q=>?_⟩;obtain⟨q1,q3⟩:=r2 q;rw[List.drop_zero]at q3;have hc:=uw g3 hin
 refine⟨hs,by omega,fun x hx=>⟨⟨(g3 x hx).ty,(q3 x hx).1⟩,?_,fun a ha=>?_⟩,q1.symm,g3⟩;exact hc.up x (q1 ▸ hx);have:=(g3 x hx).arc a ha;exact⟨this.1,(q3 x hx).2 a ha,this.2⟩;rw[if_neg e]at h2;have e':(AQ f != 0)=true:=by simp[e]
 exact⟨AQ f,by simp only[VH,h2,aL,e',zC],fun q=>absurd q e⟩
theorem vh{h:cA}{l:List aW}(hl:l.length<=1000000){n:Nat}(hn:3000000<=n):∀(m i:Nat),l.length-i<m->i<=l.length->∃b,W5 h l n m (i:Int)=some b/\(b=true->∀f∈l.drop i,yO h f)
 |0,i,hm,_=>by omega
 |m+1,i,hm,hi=>by
  unfold W5;by_cases hlt:i<l.length;obtain⟨f,hf,_⟩:=dM hlt;obtain⟨b,b1,b2⟩:=z6z f (n:=n) (by omega);simp only[fO hlt,zC,c6,hf,aL,b1,gI hlt (show l.length<=9223372036854775807 by omega)];rcases b with _|_;simp only[Bool.not_false,zC,aL];exact⟨false,rfl,fun q=>by cases q⟩;obtain⟨r,r1,r2⟩:=SW' (b2 rfl) h hn;simp only[Bool.not_true,zD,r1,aL];cases hr:(r != 0)with
  |true=>simp only[zC];exact⟨false,rfl,fun q=>by cases q⟩|false=>simp only[zD];obtain⟨b,g1,g2⟩:=vh hl hn m (i+1) (by omega) (by omega);refine⟨b,g1,fun q g hg=>?_⟩;rw[aQ hf]at hg;rcases zI.1 hg with rfl |hg;exact r2 (by simpa using hr);exact g2 q g hg
  simp only[fX hlt,zD,Pl,bG hlt];exact⟨true,rfl,fun _ f hf=>by cases hf⟩
theorem za8(h:cA){l:List aW}(hl:l.length<=1000000)(hn:3000000<=n):∃b,Nr n h l=some b/\(b=true->∀f∈l,yO h f):=by
 obtain⟨b,h1,h2⟩:=vh (h:=h) hl hn n 0 (by omega) (by omega);rw[zV]at h1;exact⟨b,h1,h2⟩
def B6(k:Nat)(a:aF):aF:=⟨a.Feat,a.To+(k:Int)⟩
def uD(k:Nat)(x:aI):aO:=⟨-1,x.Typex,x.Arcs.map (B6 k)⟩
theorem XX{a:aF}{k:Nat}(h:0<=a.To/\a.To<1000)(hk:k<=1000):IntKind.i64.wrap (a.To+(k:Int))=a.To+(k:Int):=wr (by omega) (by omega)
theorem mp{p4:List aO}{z:Int}{l24:List aO}{t:Nat}{rc:Int->List aO->Nat->Option (Int×List aO×Nat)}{x:aI}(hx:x.Arcs.length<=12)(hp:p4.length<=1000)(hto:∀a∈x.Arcs,0<=a.To/\a.To<1000):∀(m i:Nat),x.Arcs.length-i<m->i<=x.Arcs.length->WZ p4 z l24 t rc x m (i:Int) ((x.Arcs.take i).map (B6 p4.length))=Em z l24 t rc x (x.Arcs.map (B6 p4.length))
 |0,i,hm,_=>by omega
 |m+1,i,hm,hi=>by
  unfold WZ;by_cases hlt:i<x.Arcs.length;obtain⟨a,ha,ham⟩:=dM hlt;have e:(x.Arcs.take i).map (B6 p4.length)++[aF.mk a.Feat (a.To+(p4.length:Int))]=(x.Arcs.take (i+1)).map (B6 p4.length):=by rw[gM ha,List.map_append];rfl
  simp only[fO hlt,zC,c6,ha,aL,XX (hto a ham) hp,gI hlt (show x.Arcs.length<=9223372036854775807 by omega),e];rw[aB,if_pos (by simp only[yA,List.length_take];omega)];exact mp hx hp hto m (i+1) (by omega) (by omega);simp only[fX hlt,zD];rw[zW (by omega)]
theorem mq{f:aW}(hf:cD f 12)(hto:∀x∈f.Nodes,∀a∈x.Arcs,0<=a.To/\a.To<1000){p4:List aO}(hp:p4.length<=1000){n:Nat}(hn:20<=n){t0:Nat}:∀(m i:Nat),f.Nodes.length-i<m->i<=f.Nodes.length->HY f p4 n m (i:Int) (p4++(f.Nodes.take i).map (uD p4.length)) (t0+i)=some ((p4.length:Int),p4++f.Nodes.map (uD p4.length),t0+f.Nodes.length)
 |0,i,hm,_=>by omega
 |m+1,i,hm,hi=>by
  have hnl:=hf.nodes;unfold HY;by_cases hlt:i<f.Nodes.length;obtain⟨x,hx,hxm⟩:=dM hlt;have h2:=mp (z:=(i:Int)) (l24:=p4++(f.Nodes.take i).map (uD p4.length)) (t:=t0+i) (rc:=HY f p4 n m) (hf.arcs x hxm) hp (hto x hxm) n 0 (by have:=hf.arcs x hxm;omega) (by omega);rw[zV,List.take_zero,List.map_nil]at h2;have e:p4++(f.Nodes.take i).map (uD p4.length)++[aO.mk (-1) x.Typex (x.Arcs.map (B6 p4.length))]=p4++(f.Nodes.take (i+1)).map (uD p4.length):=by rw[gM hx,List.map_append,zT];rfl
  simp only[fO hlt,zC,c6,hx,aL,h2,Em,gI hlt (show f.Nodes.length<=9223372036854775807 by omega),e];rw[aB,if_pos (by simp only[zU,yA,List.length_take];omega)];exact mq hf hto hp hn m (i+1) (by omega) (by omega);have e:i=f.Nodes.length:=by omega
  subst e;simp only[fX hlt,zD,Sb,List.take_length]
theorem Lz{f:aW}(hf:cD f 12)(hto:∀x∈f.Nodes,∀a∈x.Arcs,0<=a.To/\a.To<1000){p4:List aO}(hp:p4.length<=1000)(hn:20<=n)(t0:Nat)(p2:List dI)(p3:List eE)(p6:List bC)(p8:List cN):QH n f p2 p3 p4 t0 p6 p8=some ((p4.length:Int),p4++f.Nodes.map (uD p4.length),t0+f.Nodes.length):=by
 have:=mq hf hto hp hn (t0:=t0) n 0 (by have:=hf.nodes;omega) (by omega);rw[zV,List.take_zero,List.map_nil,List.append_nil,Nat.add_zero]at this;exact this
def pT(a k:Nat):List Int:=(List.range k).map fun i=>((a+i:Nat):Int)
theorem z7t(a k:Nat):pT a (k+1)=pT a k++[((a+k:Nat):Int)]:=by simp[pT,List.range_succ]
theorem Vq(a k:Nat):(pT a k).length=k:=by simp[pT]
structure Flat(N:Nat)(FB TB:Int)(c:aO):Prop where
 fw:c.forward= -1
 ar:rG N FB c.arcs
 kd:0<=c.kind/\c.kind<TB
 sm:c.arcs.length<=12
theorem kO.init{N:Nat}{FB TB:Int}{cells:List aO}(hl:cells.length=N)(h:∀c∈cells,Flat N FB TB c):kO N 0 FB TB cells id (fun _=>0) where
 rok:=⟨fun i hi=>hi,fun i hi=>rfl,fun i hi=>rfl,fun i hi=>zF _⟩
 cok:=⟨fun i c hc _=>(h c (zX hc)).fw,fun i c hc hne=>absurd rfl hne⟩
 len:=hl
 ar i c hc:=(h c (zX hc)).ar
 kd i c hc:=(h c (zX hc)).kd
theorem Ua:∀{cells:List aO},(∀c∈cells,c.arcs.length<=12)->tot cells<=12*cells.length
 |[],_=>by simp[tot]
 |c::l,h=>by have ih:=Ua (cells:=l) fun x hx=>h x (List.mem_cons_of_mem _ hx);have:=h c (by simp);simp only[tot,zQ,List.sum_cons,zO]at ih ⊢;omega
theorem J3{k:Nat}{l:List aF}(h:j8 l):j8 (l.map (B6 k)):=by
 unfold j8 at*;rw[List.pairwise_map];exact h.imp fun{a b} q=>q
variable{h:cA}
theorem yO.flat{f:aW}(hf:yO h f){N k:Nat}(hk:k+f.Nodes.length<=N){c:aO}(hc:c∈f.Nodes.map (uD k)):Flat N (h.Feats.length:Int) (h.Types.length:Int) c:=by
 obtain⟨x,hx,rfl⟩:=List.mem_map.1 hc;obtain⟨h1,h2⟩:=hf.nok x hx;refine⟨rfl,⟨J3 h2.up,fun a ha=>?_⟩,h1,by simp[uD];exact hf.sm.arcs x hx⟩;obtain⟨b,hb,rfl⟩:=List.mem_map.1 ha;have:=h2.ok b hb;exact⟨this.1,this.2.1,by show 0<=b.To+(k:Int);omega,by show b.To+(k:Int)<_;omega⟩
theorem yO.to{f:aW}(hf:yO h f):∀x∈f.Nodes,∀a∈x.Arcs,0<=a.To/\a.To<1000:=fun x hx a ha=>by
 have:=(hf.nok x hx).2.ok a ha;have:=hf.sm.nodes;omega
variable{n:Nat}
theorem Mx{rep:Nat->Nat}{m i j:Nat}(h:rep i=rep j):fA rep m n i=fA rep m n j:=by unfold fA;rw[h]
theorem As{mt:Int->Int->Option Int}{i j:Nat}:∀(k:Nat)(W:List (Int×Int))(c:List aO)(rep d:Nat->Nat),rep i=rep j->(jB mt k W c rep d).2.2.1 i=(jB mt k W c rep d).2.2.1 j
 |0,W,c,rep,d,h=>h|k+1,[],c,rep,d,h=>h
 |k+1,p::W,c,rep,d,h=>by unfold jB;by_cases e:rep p.1.toNat=rep p.2.toNat;rw[if_pos e];exact As k W c rep d h;rw[if_neg e];rcases mt (celN c (rep p.1.toNat)).kind (celN c (rep p.2.toNat)).kind with _|t;exact h;exact As k _ _ _ _ (Mx h)
theorem Yi{mt:Int->Int->Option Int}{N:Nat}{FB TB:Int}(hmt:∀s t r,(0<=s/\s<TB)->(0<=t/\t<TB)->mt s t=some r->0<=r/\r<TB):∀(k:Nat)(W:List (Int×Int))(c:List aO)(rep d:Nat->Nat)(D:Nat),Rnd N D FB TB W c rep d->W.length+tot c<k->(jB mt k W c rep d).1=true->∀p∈W,(jB mt k W c rep d).2.2.1 p.1.toNat=(jB mt k W c rep d).2.2.1 p.2.toNat
 |0,W,c,rep,d,D,h,hk,_=>by omega
 |k+1,[],c,rep,d,D,h,hk,_=>fun p hp=>by cases hp
 |k+1,p::W,c,rep,d,D,h,hk,hb=>by simp only[zO]at hk;have T:=h.two;unfold jB at hb ⊢;by_cases e:rep p.1.toNat=rep p.2.toNat;rw[if_pos e]at hb ⊢;intro q hq;rcases zI.1 hq with rfl |hq;exact As k W c rep d e;exact Yi hmt k W c rep d D h.skip (by omega) hb q hq;rw[if_neg e]at hb ⊢;rcases hm:mt (celN c (rep p.1.toNat)).kind (celN c (rep p.2.toNat)).kind with _|t;rw[hm]at hb;cases hb;rw[hm]at hb;have ht:=hmt _ _ _ T.km T.kn hm;have hT:=T.tot e t W;intro q hq;rcases zI.1 hq with rfl |hq;refine As k _ _ _ _ ?_;simp[fA,e];exact Yi hmt k _ _ _ _ (D+1) (h.next e ht) (by omega) hb q (List.mem_append_right _ hq)
theorem zap{ws:List Nat}(hh:lU h ws)(hn:2000<=n):∀s t r,(0<=s/\s<(ws.length:Int))->(0<=t/\t<(ws.length:Int))->uC n h s t=some r->0<=r/\r<(ws.length:Int):=fun s t r hs ht hr=>by
 rcases Lh hh hs ht hn with⟨h1,_⟩|⟨q,h1,_,h3,_⟩;rw[h1]at hr;cases hr;rw[h1]at hr;have:=Option.some.inj hr;subst this;exact h3
theorem T6{a b:Nat}(hab:b&&&a=a)(ha:a<4096)(hb:b<4096)(hl:(bl b).length<=(bl a).length):a=b:=by
 have hs:∀i,a.testBit i=true->b.testBit i=true:=fun i h=>by have:=congrArg (fun z=>z.testBit i) hab;simp only[Nat.testBit_and,h,Bool.and_true]at this;exact this
 have e1:(List.range 64).filter (fun i=>a.testBit i)=((List.range 64).filter fun i=>b.testBit i).filter fun i=>a.testBit i:=by
  rw[List.filter_filter];refine List.filter_congr fun i _=>?_;rcases h:a.testBit i with _|_
  simp;simp[hs i h]
 simp only[bl,yA]at hl;rw[e1]at hl;have e2:((List.range 64).filter fun i=>b.testBit i).filter (fun i=>a.testBit i)=(List.range 64).filter fun i=>b.testBit i:=(List.filter_sublist).eq_of_length_le hl;refine Nat.eq_of_testBit_eq fun i=>?_;by_cases hi:i<64;cases hbi:b.testBit i with
 |false=>rcases hai:a.testBit i with _|_;rfl;rw[hs i hai]at hbi;cases hbi
 |true=>have:i∈(List.range 64).filter fun i=>b.testBit i:=List.mem_filter.2 ⟨List.mem_range.2 hi,hbi⟩;rw[<-e2]at this;exact(List.mem_filter.1 this).2
 rw[Nat.testBit_lt_two_pow (Nat.lt_of_lt_of_le ha (Nat.pow_le_pow_right (n:=2) (by omega) (show 12<=i by omega))),Nat.testBit_lt_two_pow (Nat.lt_of_lt_of_le hb (Nat.pow_le_pow_right (n:=2) (by omega) (show 12<=i by omega)))]
theorem Tm.hr{d:List bA}(hh:Tm d n h):∃ws,lU h ws:=by
 obtain⟨l,f,h1,h2,h3⟩:=hh.ex;obtain⟨nm,c0,ws,g1,g2,g3,g4,g5⟩:=h1.cok.ws;have hc:=h1.cok.cod;have e1:(l.map fun x=>cw x.Code).map bt=l.map cR.Code:=by rw[List.map_map];apply List.map_congr_left;intro x hx;obtain⟨w,hw,_⟩:=hc x hx;simp[hw,BI]
 have e2:(l.map fun x=>cw x.Code).Perm ws:=by
  have:=g3.perm.map cw;rw[List.map_map,List.map_map]at this;have e3:ws.map (cw ∘ bt)=ws:=by have:(cw ∘ bt)=id:=funext fun w=>BI w;rw[this,List.map_id]
  rw[e3]at this;exact this
 refine⟨l.map fun x=>cw x.Code,⟨by rw[h2,e1],fun w hw=>?_,e2.nodup_iff.2 g1.nod,fun a ha b hb hne=>?_,?_,?_,?_,?_⟩⟩;have:=g1.ok w (e2.mem_iff.1 hw);exact⟨this.2.1,by omega⟩;exact e2.mem_iff.2 (g2 a (e2.mem_iff.1 ha) b (e2.mem_iff.1 hb) hne);rw[e2.length_eq];omega;rw[e2.length_eq];omega;have:=congrArg List.length h3;rw[yA]at this;have:=h1.len;omega;intro w hw;obtain⟨y,hy,rfl⟩:=List.mem_map.1 hw;obtain⟨w0,⟨x0,rJ,e0⟩,htop⟩:=h1.cok.top;have hsrt:=g3.srt;rcases hl:l with _|⟨z,l'⟩;rw[hl]at rJ;cases rJ;simp only[zQ,List.getElem?_cons_zero,Option.getD_some];have hzm:z∈l:=by rw[hl];simp
 obtain⟨wz,ez,lz,_⟩:=hc z hzm;obtain⟨sn,IJ,l0,_⟩:=hc x0 rJ;have e00:w0=sn:=by rw[<-BI w0,<-BI sn,<-e0,<-IJ]
 have hle:cnt x0<=cnt z:=by rw[hl]at rJ hsrt;rcases zI.1 rJ with rfl |h;exact zF _;exact(List.pairwise_cons.1 hsrt).1 x0 h
 have hz:=htop z hzm;rw[ez,BI]at hz;have:wz=w0:=T6 hz lz (by rw[e00];exact l0) (by
  have c1:cnt x0=(bl w0).length:=by rw[cnt,e0,BI]
  have c2:cnt z=(bl wz).length:=by rw[cnt,ez,BI]
  omega)
 rw[ez,BI,this];exact htop y (by rw[hl]at hy;rw[hl];exact hy)
def wd(t:dI):Nat:=cw t.Code
def Sq:List Nat->Bool
 |[]=>true|x::l=>!(l.any fun y=>Nat.beq x y)&&Sq l
def okB(h:cA):Bool :=
 (h.Types.all fun t=>match t.Code with |[z]=>decide (0<z)&&decide (z<4611686018427387904)|_=>false) &&
 Sq (h.Types.map wd)&&((h.Types.map wd).all fun a=>(h.Types.map wd).all fun b=>Nat.beq (a&&&b) 0||(h.Types.map wd).any fun c=>Nat.beq (a&&&b) c) &&
 Nat.ble h.Types.length 1000&&Nat.ble 1 h.Types.length&&Nat.ble h.Feats.length 1000&&((h.Types.map wd).all fun w=>Nat.beq ((((h.Types.map wd)[0]?).getD 0)&&&w) w)
theorem kj:∀{l:List Nat},Sq l=true->l.Nodup
 |[],_=>List.nodup_nil|x::l,h=>by simp only[Sq,Bool.and_eq_true,Bool.not_eq_true',List.any_eq_false]at h;refine List.nodup_cons.2 ⟨fun hx=>?_,kj h.2⟩;have:=h.1 x hx;simp at this
theorem QT(hb:okB h=true):∃ws,lU h ws:=by
 simp only[okB,Bool.and_eq_true,List.all_eq_true,Nat.ble_eq]at hb;obtain⟨⟨⟨⟨⟨⟨h1,h2⟩,h3⟩,h4⟩,h5⟩,h6⟩,h7⟩:=hb;have hcod:∀t∈h.Types,t.Code=bt (wd t)/\wd t≠0/\wd t<4611686018427387904:=fun t ht=>by
  have:=h1 t ht;unfold wd;rcases hc:t.Code with _|⟨z,l⟩;rw[hc]at this;simp at this;cases l with
  |cons y l=>rw[hc]at this;simp at this|nil=>rw[hc]at this;simp at this;have e:cw [z]=z.toNat:=rfl;rw[e];exact⟨by rw[oI (by omega)];congr 1;omega,by omega,by omega⟩
 refine⟨h.Types.map wd,⟨?_,fun w hw=>?_,kj h2,fun a ha b hb hne=>?_,by rw[yA];exact h4,by rw[yA];exact h5,h6,fun w hw=>by have:=h7 w hw;rw[Nat.beq_eq]at this;exact this⟩⟩;rw[List.map_map];exact List.map_congr_left fun t ht=>(hcod t ht).1;obtain⟨t,ht,rfl⟩:=List.mem_map.1 hw;exact(hcod t ht).2;have:=h3 a ha b hb;rw[Bool.or_eq_true,Nat.beq_eq]at this;rcases this with h |h
 exact absurd h hne;obtain⟨c,hc,e⟩:=List.any_eq_true.1 h;rw[Nat.beq_eq]at e;rw[e];exact hc
theorem preB(m:Nat):a7 (Cy (m+200)) (fun d=>a7 (HG (m+200) d) fun r=>some (okB r.1))=some true:=by kernel_rfl
theorem Iy(m:Nat):WU (m+200)=some true:=by kernel_rfl
theorem Iz(h:200<=n):WU n=some true:=by
 have:=Iy (n-200)
 rwa [show n-200+200=n by omega]at this
theorem QM(h:200<=n):∃g ws,WT n=some g/\lU g ws:=by
 have:=preB (n-200);rw[show n-200+200=n by omega]at this;rcases e1:Cy n with _|d;rw[e1]at this;cases this;rw[e1,aL]at this;rcases e2:HG n d with _|r;rw[e2]at this;cases this;rw[e2,aL]at this;obtain⟨ws,hw⟩:=QT (Option.some.inj this);exact⟨⟨r.1.Types,r.1.Feats⟩,ws,by simp only[WT,e1,e2,aL],hw⟩
theorem zaa(d:List bA)(hn:5000<=n):∃g ws,Ec n d=some g/\lU g ws:=by
 obtain⟨g,ws,p1,p2⟩:=QM (n:=n) (by omega);unfold Ec;by_cases hd:(d.length:Int)<=12;obtain⟨h,e,c1,c2,c3⟩:=qzg (d:=d) (by omega) hn;simp only[hd,yC,zC,c1,aL];by_cases he:e=0;subst he;obtain⟨ws',hw⟩:=(c2 rfl).hr;exact⟨⟨h.Types,h.Feats⟩,ws',rfl,hw⟩;have:(e==0)=false:=by simpa using he
 simp only[this,zD];exact⟨g,ws,p1,p2⟩;simp only[hd,yB,zD];exact⟨g,ws,p1,p2⟩
def wG(rep:Nat->Nat)(a:aF):aF:=⟨a.Feat,rI rep a.To⟩
def X9(rep:Nat->Nat)(c:aO):aI:=⟨c.kind,c.arcs.map (wG rep)⟩
def cG(cells:List aO)(rep:Nat->Nat):aW:=⟨cells.map (X9 rep)⟩
variable{rep:Nat->Nat}
theorem NH{l:List aF}(h:j8 l):j8 (l.map (wG rep)):=by
 unfold j8 at*;rw[List.pairwise_map];exact h.imp fun{a b} q=>q
theorem kO.gok{N D:Nat}{FB TB:Int}{cells:List aO}{d:Nat->Nat}(h:kO N D FB TB cells rep d):tK (cG cells rep):=fun x hx=>by
 obtain⟨c,hc,rfl⟩:=List.mem_map.1 hx;obtain⟨i,hi⟩:=List.getElem?_of_mem hc;have ha:=h.ar i c hi;refine⟨(h.kd i c hi).1,(NH ha.up).dis,fun a hm=>?_⟩;obtain⟨b,hb,rfl⟩:=List.mem_map.1 hm;have h1:=ha.ok b hb;have h2:=h.rI (v:=b.To) h1.2.2;simp only[cG,yA,h.len];exact⟨h1.1,h2⟩
theorem z3j{f:aW}{o t:List Int}{u:Int}(hu:∀a∈(nd f u).Arcs,a.To∈o):oK f (o++t) u=oK f o u:=by
 simp only[oK,aI.mk.injEq,true_and];refine List.map_congr_left fun a ha=>?_;simp only[oJ,List.idxOf_append,hu a (BP.1 ha),if_true]
theorem kO.nd{N D:Nat}{FB TB:Int}{cells:List aO}{rep d:Nat->Nat}(h:kO N D FB TB cells rep d){v:Int}(hv:0<=v/\v<(N:Int)):Go.Proofs.nd (cG cells rep) v=X9 rep (mD cells v)/\kE (cG cells rep) v=(mD cells v).arcs.map (wG rep):=by
 have hc:=h.cel hv;have e:Go.Proofs.nd (cG cells rep) v=X9 rep (mD cells v):=by simp only[Go.Proofs.nd,cG,List.getElem?_map,hc,zM,Option.getD_some]
 exact⟨e,by rw[kE,e];exact yt (NH (h.ar _ _ hc).up)⟩
theorem z4q(a b:List aI)(k:Int)(l:List aF):TT (a++[⟨k,[]⟩]++b) a.length l=a++[⟨k,l⟩]++b:=by
 simp[TT]
theorem yi{N D B:Nat}{FB TB:Int}{cells:List aO}{rep d:Nat->Nat}(h:kO N D FB TB cells rep d)(hB:tot cells<=B):∀(k:Nat)(s:List Int×List aI)(v:Int),Sn N B s->(0<=v/\v<(N:Int))->N-s.1.length<k->rI rep v ∉ s.1->
  vis cells rep k s v=((s.1.length:Int),dfs (cG cells rep) k s.1 (rI rep v),s.2++((dfs (cG cells rep) k s.1 (rI rep v)).drop s.1.length).map (oK (cG cells rep) (dfs (cG cells rep) k s.1 (rI rep v))))
 |0,s,v,hs,hv,hk,_=>by omega
 |k+1,s,v,hs,hv,hk,hm=>by
  have hg:=h.gok;have hr:=h.rI hv;have sG:=hs.snoc hr hm (mD cells (rI rep v)).kind;have hc:=h.cel hr;have har:=h.ar _ _ hc;obtain⟨n1,n2⟩:=h.nd hr;have hGl:(cG cells rep).Nodes.length=N:=by simp[cG,h.len]
  have xW:=sG.le;simp only[zU,zO,zS]at xW;have key:∀(l:List aF),(∀a∈l,0<=a.To/\a.To<(N:Int))->∀(s':List Int×List aI)(acc:List aF),Sn N B s'->s.1.length+1<=s'.1.length->
    ∃t,(l.map (wG rep)).foldl (jT (dfs (cG cells rep) k)) s'.1=s'.1++t/\(∀a∈l,rI rep a.To∈s'.1++t)/\(∀u∈t,∀a∈(Go.Proofs.nd (cG cells rep) u).Arcs,a.To∈s'.1++t)/\
     qG (vis cells rep k) l s' acc=(acc++l.map (fun a=>oJ (s'.1++t) (wG rep a)),s'.1++t,s'.2++t.map (oK (cG cells rep) (s'.1++t))):=by
   intro l;induction l with
   |nil=>intro _ s' acc h1 h2;exact⟨[],by simp,by simp,by simp,by simp[qG]⟩|cons a l ih=>
    intro hl s' acc h1 h2;have ha:=hl a (by simp);have hra:=h.rI ha;rw[qG];by_cases hin:rI rep a.To∈s'.1;have e1:vis cells rep k s' a.To=((s'.1.idxOf (rI rep a.To):Int),s'):=by obtain⟨k',rfl⟩:=Nat.exists_eq_add_of_le' (show 1<=k by have:=h1.le;omega);rw[vis,if_pos hin]
    rw[e1];obtain⟨t,q1,q2,q3,q4⟩:=ih (fun b hb=>hl b (List.mem_cons_of_mem _ hb)) s' (acc++[⟨a.Feat,(s'.1.idxOf (rI rep a.To):Int)⟩]) h1 h2;refine⟨t,?_,?_,q3,?_⟩;rw[zQ,List.foldl_cons];have:jT (dfs (cG cells rep) k) s'.1 (wG rep a)=s'.1:=by rw[jT,if_pos (by exact hin)]
    rw[this,q1];intro b hb;rcases zI.1 hb with rfl |hb;exact List.mem_append_left _ hin
    exact q2 b hb;rw[q4];have:oJ (s'.1++t) (wG rep a)=⟨a.Feat,(s'.1.idxOf (rI rep a.To):Int)⟩:=by simp only[oJ,wG,List.idxOf_append,hin,if_true]
    rw[zQ,this];simp;have e1:=yi h hB k s' a.To h1 ha (by omega) hin
    have hSeen:Seen (cG cells rep) s'.1:=⟨h1.nd,fun u hu=>by have:=h1.ing u hu;rw[pM,hGl];exact this⟩;obtain⟨d1,⟨t1,d2⟩,d3,d4⟩:=Lp hg k s'.1 (rI rep a.To) hSeen (by rw[pM,hGl];exact hra) hin (by rw[hGl];omega);obtain⟨v1,v2,v3⟩:=Tz h hB k s' a.To h1 ha (by omega);rw[e1]at v1 v2 ⊢;simp only at v1 v2 ⊢;rw[d2]at v1 v2 ⊢;have XD:∀u∈rI rep a.To::t1,∀b∈(Go.Proofs.nd (cG cells rep) u).Arcs,b.To∈s'.1++rI rep a.To::t1:=fun u hu b hb=>by by_cases hu':u∈s'.1;exfalso;have:=d1.nd;rw[d2,List.nodup_append]at this;exact this.2.2 u hu' u hu rfl;have:=d3 u (by rw[d2];exact List.mem_append_right _ hu) hu' b hb;rw[d2]at this;exact this
    rw[List.drop_left]at v1 ⊢;obtain⟨t,q1,q2,q3,q4⟩:=ih (fun b hb=>hl b (List.mem_cons_of_mem _ hb)) _ (acc++[⟨a.Feat,(s'.1.length:Int)⟩]) v1 (by simp only[zU,zO]at v2 ⊢;omega);simp only at q1 q2 q3 q4;refine⟨rI rep a.To::t1++t,?_,?_,?_,?_⟩;rw[zQ,List.foldl_cons];have:jT (dfs (cG cells rep) k) s'.1 (wG rep a)=s'.1++rI rep a.To::t1:=by rw[jT,if_neg (by exact hin)];exact d2
    rw[this,q1];simp;intro b hb;rcases zI.1 hb with rfl |hb;simp;have:=q2 b hb;simpa using this;intro u hu b hb;rcases yD.1 hu with hu |hu;have:=XD u hu b hb;rw[zT]at*;simp only[yD]at this ⊢;rcases this with h |h;exact .inl h;exact .inr (.inl h);have:=q3 u hu b hb;simpa using this;rw[q4];have e2:s'.1++(rI rep a.To::t1++t)=s'.1++rI rep a.To::t1++t:=by simp
    have e3:oJ (s'.1++rI rep a.To::t1++t) (wG rep a)=⟨a.Feat,(s'.1.length:Int)⟩:=by simp only[oJ,wG,List.idxOf_append,yD,hin,zI,true_or,or_true,if_true,if_false,List.idxOf_cons_self];simp
    have e4:(rI rep a.To::t1).map (oK (cG cells rep) (s'.1++rI rep a.To::t1++t))=(rI rep a.To::t1).map (oK (cG cells rep) (s'.1++rI rep a.To::t1)):=List.map_congr_left fun u hu=>z3j (XD u hu);rw[e2];refine Prod.ext ?_ (Prod.ext rfl ?_);show acc++[_]++_=acc++List.map _ (a::l);rw[zQ,e3,zT];rfl;show s'.2++_++_=s'.2++List.map _ (rI rep a.To::t1++t);rw[List.map_append,e4,zT]
  obtain⟨t,q1,q2,q3,q4⟩:=key _ (fun a ha=>(har.ok a ha).2.2) (s.1++[rI rep v],s.2++[⟨(mD cells (rI rep v)).kind,[]⟩]) [] sG (by simp);simp only at q1 q2 q3 q4;have hd:dfs (cG cells rep) (k+1) s.1 (rI rep v)=s.1++rI rep v::t:=by rw[dfs,n2,q1];simp
  rw[hd,List.drop_left,vis,if_neg hm];simp only[q4];have hlen:=hs.len;rw[<-hlen,z4q,List.nil_append];have e1:s.1++rI rep v::t=s.1++[rI rep v]++t:=by simp
  rw[e1];have e2:oK (cG cells rep) (s.1++[rI rep v]++t) (rI rep v)=⟨(mD cells (rI rep v)).kind,(mD cells (rI rep v)).arcs.map fun a=>oJ (s.1++[rI rep v]++t) (wG rep a)⟩:=by rw[oK,n1,n2,List.map_map];rfl
  rw[zQ,e2];simp
theorem z7l{N D:Nat}{FB TB:Int}{cells:List aO}{d:Nat->Nat}(h:kO N D FB TB cells rep d){n:Nat}(hn:N<n){v:Int}(hv:0<=v/\v<(N:Int)):OH n cells rep v=mG (cG cells rep) (rI rep v):=by
 have hGl:(cG cells rep).Nodes.length=N:=by simp[cG,h.len]
 have hr:=h.rI hv;have:=yi h (zF _) n ([],[]) v (Sn.nil N _) hv (by simp;omega) (by simp);obtain⟨o1,o2⟩:=UT h.gok (r:=rI rep v) (by rw[pM,hGl];exact hr);rw[OH,this];simp only[zS,List.drop_zero,List.nil_append,o2 n (by omega),mG]
theorem yk:∀{a b:List aF},j8 a->j8 b->(∀x,x∈a↔x∈b)->a=b
 |[],[],_,_,_=>rfl|[],y::b,_,_,h=>by have:=(h y).2 (by simp);cases this
 |x::a,[],_,_,h=>by have:=(h x).1 (by simp);cases this
 |x::a,y::b,ha,hb,h=>by
  have ha':=List.pairwise_cons.1 ha;have hb':=List.pairwise_cons.1 hb;have e:x=y:=by rcases zI.1 ((h x).1 (by simp))with e |e;exact e;rcases zI.1 ((h y).2 (by simp))with e' |e';exact e'.symm;have:=ha'.1 y e';have:=hb'.1 x e;omega
  subst e;rw[yk ha'.2 hb'.2 fun z=>⟨fun hz=>by
   rcases zI.1 ((h z).1 (List.mem_cons_of_mem _ hz))with e |e;subst e;have:=ha'.1 z hz;omega;exact e,fun hz=>by
   rcases zI.1 ((h z).2 (List.mem_cons_of_mem _ hz))with e |e;subst e;have:=hb'.1 z hz;omega;exact e⟩]
structure QG(ws:List Nat)(L:List aI)(r:Nat->Nat)(g:aW):Prop where
 len:g.Nodes.length=L.length
 rt:∀i,i<L.length->r i<L.length/\r (r i)=r i
 kd:∀i x,g.Nodes[i]? = some x->r i=i->(0<=x.Typex/\x.Typex<(ws.length:Int))/\∀k,(dS ws x.Typex).testBit k=true↔∀j c,L[j]? = some c->r j=i->(dS ws c.Typex).testBit k=true
 ds:∀i x,g.Nodes[i]? = some x->r i=i->jQ x.Arcs
 cov:∀j c a,L[j]? = some c->a∈c.Arcs->∃x b,g.Nodes[r j]? = some x/\b∈x.Arcs/\b.Feat=a.Feat/\b.To=(r a.To.toNat:Int)
 snd:∀i x b,g.Nodes[i]? = some x->r i=i->b∈x.Arcs->∃j c a,L[j]? = some c/\r j=i/\a∈c.Arcs/\b.Feat=a.Feat/\b.To=(r a.To.toNat:Int)
variable{ws:List Nat}
theorem z9z(hn:ws.Nodup){s t:Int}(hs:0<=s/\s<(ws.length:Int))(ht:0<=t/\t<(ws.length:Int))(h:dS ws s=dS ws t):s=t:=by
 have h1:=EJ hs;have h2:=EJ ht;rw[<-h]at h2;obtain⟨a1,b1⟩:=zG.1 h1;obtain⟨a2,b2⟩:=zG.1 h2;have:=(List.getElem_inj (h₀:=a1) (h₁:=a2) hn).1 (by rw[b1,b2]);omega
def InR(N:Nat)(r:Nat->Nat)(v:Int):Prop:=∃i:Nat,v=(i:Int)/\i<N/\r i=i
theorem QG.sim(hn:ws.Nodup){L:List aI}(hL:∀(j:Nat)(c:aI)(a:aF),L[j]? = some c->a∈c.Arcs->a.To.toNat<L.length){r r':Nat->Nat}{g g':aW}(h:QG ws L r g)(h':QG ws L r' g')(he:∀i j,i<L.length->j<L.length->(r i=r j↔r' i=r' j)):
  o7 g g' (fun v=>(r' v.toNat:Int)) (InR L.length r):=by
 have node:∀{i:Nat},i<L.length->∃x,g.Nodes[i]? = some x/\nd g (i:Int)=x:=fun{i} hi=>by
  have:i<g.Nodes.length:=by rw[h.len];exact hi
  exact⟨_,List.getElem?_eq_getElem this,by simp[nd,this]⟩
 have node':∀{i:Nat},i<L.length->∃x,g'.Nodes[i]? = some x/\nd g' (i:Int)=x:=fun{i} hi=>by
  have:i<g'.Nodes.length:=by rw[h'.len];exact hi
  exact⟨_,List.getElem?_eq_getElem this,by simp[nd,this]⟩
 have memb:∀{j:Nat}{c:aI},L[j]? = some c->j<L.length:=fun hj=>(zG.1 hj).1;have mem_iff:∀{i j:Nat},i<L.length->j<L.length->r i=i->(r j=i↔r' j=r' i):=fun{i j} hi hj hr=>by rw[<-he j i hj hi,hr]
 refine⟨?_,?_,?_,?_⟩;rintro v ⟨i,rfl,hi,hr⟩ a ha;rw[BP]at ha;obtain⟨x,hx,e⟩:=node hi;rw[e]at ha;obtain⟨j,c,b,q1,q2,q3,q4,q5⟩:=h.snd i x a hx hr ha;have:=h.rt _ (hL j c b q1 q3);exact⟨r b.To.toNat,q5,this.1,this.2⟩;rintro u v ⟨i,rfl,hi,hr⟩ ⟨j,rfl,hj,hs⟩ e;simp only[zZ]at e;have:=(he i j hi hj).2 (by omega);omega;rintro v ⟨i,rfl,hi,hr⟩;obtain⟨x,hx,e⟩:=node hi;have hi':=h'.rt i hi;obtain⟨y,hy,e'⟩:=node' hi'.1;simp only[zZ];rw[e,e'];obtain⟨k1,k2⟩:=h.kd i x hx hr;obtain⟨k3,k4⟩:=h'.kd _ y hy hi'.2;refine z9z hn k3 k1 (Nat.eq_of_testBit_eq fun k=>?_);rw[Bool.eq_iff_iff,k2,k4];exact⟨fun q j c hj LI=>q j c hj ((mem_iff hi (memb hj) hr).1 LI),fun q j c hj LI=>q j c hj ((mem_iff hi (memb hj) hr).2 LI)⟩;rintro v ⟨i,rfl,hi,hr⟩;obtain⟨x,hx,e⟩:=node hi;have hi':=h'.rt i hi;obtain⟨y,hy,e'⟩:=node' hi'.1;simp only[zZ];have up1:j8 (kE g' ((r' i:Nat):Int)):=by rw[kE,e'];exact UP (h'.ds _ y hy hi'.2)
 have up2:j8 ((kE g (i:Int)).map fun a=>(⟨a.Feat,(r' a.To.toNat:Int)⟩:aF)):=by
  have:j8 (kE g (i:Int)):=by rw[kE,e];exact UP (h.ds _ x hx hr)
  unfold j8 at*;rw[List.pairwise_map];exact this.imp fun{a b} q=>q
 refine yk up1 up2 fun b=>?_;rw[BP,e',List.mem_map];constructor;intro hb;obtain⟨j,c,a,q1,q2,q3,q4,q5⟩:=h'.snd _ y b hy hi'.2 hb;have hji:=(mem_iff hi (memb q1) hr).2 q2;obtain⟨x2,b2,p1,p2,p3,p4⟩:=h.cov j c a q1 q3;rw[hji,hx]at p1;cases p1;refine⟨b2,by rw[BP,e];exact p2,?_⟩;have ht:=hL j c a q1 q3;have h1:=h.rt _ ht;have:r' (r a.To.toNat)=r' a.To.toNat:=(he _ _ h1.1 ht).1 h1.2;rw[p4,zZ,this,<-q5,p3,<-q4];rintro⟨b2,nJ,rfl⟩;rw[BP,e]at nJ;obtain⟨j,c,a,q1,q2,q3,q4,q5⟩:=h.snd i x b2 hx hr nJ;have hji:=(mem_iff hi (memb q1) hr).1 q2;obtain⟨y2,b3,p1,p2,p3,p4⟩:=h'.cov j c a q1 q3;rw[hji,hy]at p1;cases p1;have ht:=hL j c a q1 q3;have h1:=h.rt _ ht;have e4:r' (r a.To.toNat)=r' a.To.toNat:=(he _ _ h1.1 ht).1 h1.2;have:(⟨b2.Feat,(r' b2.To.toNat:Int)⟩:aF)=b3:=by cases b3;simp only[aF.mk.injEq];simp only at p3 p4;rw[q5,zZ,e4];exact⟨by rw[q4,p3],p4.symm⟩
 rw[this];exact p2
theorem QG.read(hn:ws.Nodup){L:List aI}(hL:∀(j:Nat)(c:aI)(a:aF),L[j]? = some c->a∈c.Arcs->a.To.toNat<L.length){r r':Nat->Nat}{g g':aW}(h:QG ws L r g)(h':QG ws L r' g')(hg:tK g)(hg':tK g')(he:∀i j,i<L.length->j<L.length->(r i=r j↔r' i=r' j)){i:Nat}(hi:i<L.length):
  mG g' ((r' i:Nat):Int)=mG g ((r i:Nat):Int):=by
 have h1:=h.rt i hi;have h2:=h'.rt i hi;have e:r' (r i)=r' i:=(he _ _ h1.1 hi).1 h1.2;have:=(h.sim hn hL h' he).canon hg hg' (r:=((r i:Nat):Int)) ⟨by omega,by rw[h.len];omega⟩ ⟨r i,rfl,h1.1,h1.2⟩ (by simp only[zZ,e];exact⟨by omega,by rw[h'.len];omega⟩);simp only[zZ,e]at this;exact this.2
def XJ(N:Nat)(r:Nat->Nat)(W:List (Int×Int))(x y:Nat):Prop:=∀q:Nat->Nat,(∀i j,i<N->j<N->r i=r j->q i=q j)->(∀p∈W,q p.1.toNat=q p.2.toNat)->q x=q y
structure uH(N:Nat)(ws:List Nat)(L:List aI):Prop where
 len:L.length=N
 ar:∀(j:Nat)(c:aI)(a:aF),L[j]? = some c->a∈c.Arcs->0<=a.To/\a.To<(N:Int)
structure TC(ws:List Nat)(N:Nat)(L:List aI)(W:List (Int×Int))(cells:List aO)(rep:Nat->Nat):Prop where
 cov:∀(j:Nat)(c:aI)(a:aF),L[j]? = some c->a∈c.Arcs->∃b∈(celN cells (rep j)).arcs,b.Feat=a.Feat/\XJ N rep W b.To.toNat a.To.toNat
 snd:∀(i:Nat)(b:aF),i<N->rep i=i->b∈(celN cells i).arcs->∃(j:Nat)(c:aI),L[j]? = some c/\rep j=i/\b∈c.Arcs
 kd:∀(i:Nat),i<N->rep i=i->∀k:Nat,(dS ws (celN cells i).kind).testBit k=true↔∀(j:Nat)(c:aI),L[j]? = some c->rep j=i->(dS ws c.Typex).testBit k=true
def AS(L:List aI)(q:Nat->Nat):Prop:=∀(i j:Nat)(c e:aI)(a b:aF),L[i]? = some c->L[j]? = some e->q i=q j->a∈c.Arcs->b∈e.Arcs->a.Feat=b.Feat->q a.To.toNat=q b.To.toNat
def N2(ws:List Nat)(L:List aI)(q:Nat->Nat):Prop:=∃i,i<L.length/\∀k:Nat,∃(j:Nat)(c:aI),L[j]? = some c/\q j=q i/\(dS ws c.Typex).testBit k=false
structure MV(N:Nat)(W:List (Int×Int))(rep q:Nat->Nat):Prop where
 r:∀i j,i<N->j<N->rep i=rep j->q i=q j
 w:∀p∈W,q p.1.toNat=q p.2.toNat
variable{c:List aO}
variable{m:Nat}
variable{n:Nat}
theorem bo(hm:m<c.length)(hn:n<c.length)(hmn:m≠n)(t:Int)(o:List aF)(i:Nat):
  celN (rW c m n t o) i=if i=n then⟨(m:Int),0,[]⟩else if i=m then⟨-1,t,o⟩else celN c i:=by
 simp only[celN,rW,List.getElem?_set,List.length_set];by_cases e:i=n;subst e;simp[hn];rw[if_neg (fun q=>e q.symm),if_neg e];by_cases e2:i=m;subst e2;simp[hm];rw[if_neg (fun q=>e2 q.symm),if_neg e2]
variable{ws:List Nat}
variable{N:Nat}
variable{L:List aI}
variable{W:List (Int×Int)}
variable{p:Int×Int}
variable{rep:Nat->Nat}
theorem TC.skip(h:TC ws N L (p::W) c rep)(hp:ZK N p)(e:rep p.1.toNat=rep p.2.toNat):TC ws N L W c rep where
 cov j x a hj ha:=by obtain⟨b,h1,h2,h3⟩:=h.cov j x a hj ha;refine⟨b,h1,h2,fun q q1 q2=>h3 q q1 fun z hz=>?_⟩;rcases zI.1 hz with rfl |hz;exact q1 _ _ (by have:=hp.1;omega) (by have:=hp.2;omega) e;exact q2 z hz
 snd:=h.snd
 kd:=h.kd
structure Mg(N:Nat)(p:Int×Int)(c:List aO)(rep:Nat->Nat)(m n:Nat):Prop where
 len:c.length=N
 hm:m<N
 hn:n<N
 em:rep m=m
 en:rep n=n
 ne:m≠n
 lt:∀i,i<N->rep i<N
 idem:∀i,i<N->rep (rep i)=rep i
 pi:ZK N p
 pp:(rep p.1.toNat=m/\rep p.2.toNat=n)\/(rep p.1.toNat=n/\rep p.2.toNat=m)
 dm:jQ (celN c m).arcs
variable{D:Nat}
variable{FB:Int}
variable{d:Nat->Nat}
theorem Rnd.mg{TB:Int}(hr:Rnd N D FB TB (p::W) c rep d)(hne:rep p.1.toNat≠rep p.2.toNat):Mg N p c rep (rep p.1.toNat) (rep p.2.toNat):=
 have T:=hr.two
 ⟨hr.hp.len,T.hm,T.hn,T.em,T.en,hne,hr.hp.rok.lt,hr.hp.rok.idem,hr.wi p (by simp),.inl ⟨rfl,rfl⟩,T.am.up.dis⟩
theorem TC.mrg(hL:uH N ws L){W':List (Int×Int)}(T:Mg N p c rep m n)(h:TC ws N L (p::W) c rep){t:Int}{o:List aF}
  (ht:dS ws t=dS ws (celN c m).kind&&&dS ws (celN c n).kind) (hM:o.Perm ((celN c m).arcs++kF (celN c m).arcs (celN c n).arcs)) (w1:∀z∈prs (celN c m).arcs (celN c n).arcs,z∈W') (w2:∀z∈W,z∈W'):
  TC ws N L W' (rW c m n t o) (fA rep m n):=by
 obtain⟨AA,uF⟩:=T.pi;have hne:=T.ne;have hlen:=T.len;have hmc:m<c.length:=by have:=T.hm;omega
 have hnc:n<c.length:=by have:=T.hn;omega
 have hcel:=bo hmc hnc hne t o;have ida:∀j,j<N->rep (rep j)=rep j:=T.idem;have jlt:∀{j:Nat}{x:aI},L[j]? = some x->j<N:=fun hj=>by have:=(zG.1 hj).1;rw[hL.len]at this;exact this
 have mono:∀i j,rep i=rep j->fA rep m n i=fA rep m n j:=fun i j e=>Mx e;have lnk:∀{x y:Nat},XJ N rep (p::W) x y->XJ N (fA rep m n) W' x y:=fun{x y} hl q q1 q2=>by
  refine hl q (fun i j hi hj e=>q1 i j hi hj (mono i j e)) fun z hz=>?_;rcases zI.1 hz with rfl |hz
  refine q1 _ _ (by omega) (by omega) ?_;unfold fA;rcases T.pp with⟨e1,e2⟩|⟨e1,e2⟩;rw[e1,e2,if_neg hne,if_pos rfl];rw[e1,e2,if_neg hne,if_pos rfl];exact q2 z (w2 z hz)
 refine⟨fun j x a hj ha=>?_,fun i b hi hri hb=>?_,fun i hi hri k=>?_⟩;obtain⟨b,h1,h2,h3⟩:=h.cov j x a hj ha;by_cases en:rep j=n;have e1:fA rep m n j=m:=by unfold fA;rw[if_pos en]
 rw[e1,hcel,if_neg hne,if_pos rfl];rw[en]at h1;show ∃b∈o,_;by_cases hf:rX (celN c m).arcs b.Feat=true;obtain⟨z,hz,ez⟩:=EQ.1 hf;refine⟨z,hM.mem_iff.2 (List.mem_append_left _ hz),by omega,fun q q1 q2=>?_⟩;have hpz:(z.To,b.To)∈prs (celN c m).arcs (celN c n).arcs:=List.mem_filterMap.2 ⟨b,h1,by rw[ur T.dm hz ez];rfl⟩;have:=q2 (z.To,b.To) (w1 _ hpz);rw[this];exact lnk h3 q q1 q2;refine⟨b,hM.mem_iff.2 (List.mem_append_right _ (List.mem_filter.2 ⟨h1,by simpa using hf⟩)),h2,lnk h3⟩;have e1:fA rep m n j=rep j:=by unfold fA;rw[if_neg en]
 rw[e1,hcel,if_neg en];by_cases em:rep j=m;rw[if_pos em];rw[em]at h1;exact⟨b,hM.mem_iff.2 (List.mem_append_left _ h1),h2,lnk h3⟩;rw[if_neg em];exact⟨b,h1,h2,lnk h3⟩;by_cases ein:i=n;subst ein
 rw[hcel,if_pos rfl]at hb;cases hb;rw[hcel,if_neg ein]at hb;by_cases eim:i=m;subst eim;rw[if_pos rfl]at hb;rcases yD.1 (hM.mem_iff.1 hb)with hb |hb;obtain⟨j,x,q1,q2,q3⟩:=h.snd _ b T.hm T.em hb;exact⟨j,x,q1,by unfold fA;rw[q2,if_neg hne],q3⟩;obtain⟨j,x,q1,q2,q3⟩:=h.snd _ b T.hn T.en (List.mem_filter.1 hb).1;exact⟨j,x,q1,by unfold fA;rw[q2,if_pos rfl],q3⟩;rw[if_neg eim]at hb;have hri':rep i=i:=by unfold fA at hri;split at hri;exact absurd hri.symm eim;exact hri
 obtain⟨j,x,q1,q2,q3⟩:=h.snd i b hi hri' hb;exact⟨j,x,q1,by unfold fA;rw[q2,if_neg ein],q3⟩;by_cases ein:i=n;subst ein
 unfold fA at hri;rw[T.en,if_pos rfl]at hri;exact absurd hri hne;rw[hcel,if_neg ein];by_cases eim:i=m;subst eim;rw[if_pos rfl];show(dS ws t).testBit k=true↔_;rw[ht,Nat.testBit_and,Bool.and_eq_true,h.kd _ T.hm T.em,h.kd _ T.hn T.en];constructor;rintro⟨g1,g2⟩ j x hj hrj;unfold fA at hrj;by_cases e:rep j=n;exact g2 j x hj e;rw[if_neg e]at hrj;exact g1 j x hj hrj;intro g;exact⟨fun j x hj e=>g j x hj (by unfold fA;rw[e,if_neg hne]),fun j x hj e=>g j x hj (by unfold fA;rw[if_pos e])⟩;rw[if_neg eim];have hri':rep i=i:=by unfold fA at hri;split at hri;exact absurd hri.symm eim;exact hri
 rw[h.kd i hi hri'];constructor;intro g j x hj e;refine g j x hj ?_;unfold fA at e;split at e;exact absurd e.symm eim;exact e;intro g j x hj e;exact g j x hj (by unfold fA;rw[e,if_neg ein])
theorem MV.mrg(hL:uH N ws L){W':List (Int×Int)}{q:Nat->Nat}(T:Mg N p c rep m n)(h:TC ws N L (p::W) c rep)(hq:AS L q)(hu:MV N (p::W) rep q)(w:∀z∈W',z∈prs (celN c m).arcs (celN c n).arcs\/z∈W):
  q m=q n/\MV N W' (fA rep m n) q:=by
 obtain⟨AA,uF⟩:=T.pi;have hpp:=hu.w p (by simp);have e3:q m=q n:=by rcases T.pp with⟨e1,e2⟩|⟨e1,e2⟩;have a1:q m=q p.1.toNat:=hu.r _ _ T.hm (by omega) (by rw[T.em,e1]);have a2:q n=q p.2.toNat:=hu.r _ _ T.hn (by omega) (by rw[T.en,e2]);rw[a1,a2,hpp];have a1:q n=q p.1.toNat:=hu.r _ _ T.hn (by omega) (by rw[T.en,e1]);have a2:q m=q p.2.toNat:=hu.r _ _ T.hm (by omega) (by rw[T.em,e2]);rw[a1,a2,hpp]
 refine⟨e3,fun i j hi hj e=>?_,fun z hz=>?_⟩
 ·have ri:q (rep i)=q i:=hu.r _ _ (T.lt i hi) hi (T.idem i hi);have rj:q (rep j)=q j:=hu.r _ _ (T.lt j hj) hj (T.idem j hj);rw[<-ri,<-rj];unfold fA at e;split at e
  ·next h1=>
   split at e
   ·next h2=>rw[h1,h2]
   ·next h2=>rw[h1,<-e3,e]
  ·next h1=>
   split at e
   ·next h2=>rw[h2,<-e3,e]
   ·next h2=>rw[e]
 rcases w z hz with hz |hz;obtain⟨x,hx,y,hy,hf,rfl⟩:=Vu hz;obtain⟨j,xc,q1,q2,q3⟩:=h.snd _ x T.hm T.em hx;obtain⟨j',yc,r1,r2,r3⟩:=h.snd _ y T.hn T.en hy;have jl:=(zG.1 q1).1;have jl':=(zG.1 r1).1;rw[hL.len]at jl jl';refine hq j j' xc yc x y q1 r1 ?_ q3 r3 hf;have a1:q j=q m:=hu.r _ _ jl T.hm (by rw[T.em,q2]);have a2:q j'=q n:=hu.r _ _ jl' T.hn (by rw[T.en,r2]);rw[a1,a2,e3];exact hu.w z (List.mem_cons_of_mem _ hz)
structure Jw(ws:List Nat)(mt:Int->Int->Option Int):Prop where
 no:∀s t,(0<=s/\s<(ws.length:Int))->(0<=t/\t<(ws.length:Int))->mt s t=none->dS ws s&&&dS ws t=0
 yes:∀s t r,(0<=s/\s<(ws.length:Int))->(0<=t/\t<(ws.length:Int))->mt s t=some r->(0<=r/\r<(ws.length:Int))/\dS ws r=dS ws s&&&dS ws t
theorem Wm{ws:List Nat}{mt:Int->Int->Option Int}(hmt:Jw ws mt){N:Nat}{FB:Int}{L:List aI}(hL:uH N ws L):∀(k:Nat)(W:List (Int×Int))(c:List aO)(rep d:Nat->Nat)(D:Nat),Rnd N D FB ws.length W c rep d->TC ws N L W c rep->W.length+tot c<k->
  ((jB mt k W c rep d).1=true->TC ws N L [] (jB mt k W c rep d).2.1 (jB mt k W c rep d).2.2.1)/\
  ∀q,AS L q->MV N W rep q->((jB mt k W c rep d).1=true->MV N [] (jB mt k W c rep d).2.2.1 q)/\((jB mt k W c rep d).1=false->N2 ws L q)
 |0,W,c,rep,d,D,hr,h,hk=>by omega
 |k+1,[],c,rep,d,D,hr,h,hk=>⟨fun _=>h,fun q _ hu=>⟨fun _=>hu,fun e=>(by cases e)⟩⟩|k+1,p::W,c,rep,d,D,hr,h,hk=>by
  simp only[zO]at hk;unfold jB;by_cases e:rep p.1.toNat=rep p.2.toNat;rw[if_pos e];obtain⟨g1,g2⟩:=Wm hmt hL k W c rep d D hr.skip (h.skip (hr.wi p (by simp)) e) (by omega);exact⟨g1,fun q hq hu=>g2 q hq ⟨hu.r,fun z hz=>hu.w z (List.mem_cons_of_mem _ hz)⟩⟩;rw[if_neg e];have T:=hr.two;cases hm:mt (celN c (rep p.1.toNat)).kind (celN c (rep p.2.toNat)).kind with
  |none=>
   refine⟨fun q=>(by cases q),fun q hq hu=>⟨fun q=>(by cases q),fun _=>?_⟩⟩;obtain⟨e3,_⟩:=hu.mrg hL (hr.mg e) h hq (W':=W) fun z hz=>.inr hz;have h0:=hmt.no _ _ T.km T.kn hm;refine⟨rep p.1.toNat,by rw[hL.len];exact T.hm,fun b=>?_⟩;have hb:(dS ws (celN c (rep p.1.toNat)).kind).testBit b=false\/(dS ws (celN c (rep p.2.toNat)).kind).testBit b=false:=by have:=congrArg (fun x=>x.testBit b) h0;simp only[Nat.testBit_and,Nat.zero_testBit,Bool.and_eq_false_iff]at this;exact this
   have find:∀i,i<N->rep i=i->(dS ws (celN c i).kind).testBit b=false->∃(j:Nat)(x:aI),L[j]? = some x/\rep j=i/\(dS ws x.Typex).testBit b=false:=fun i hi hri hf=>by
    refine Classical.byContradiction fun hno=>?_;have:=(h.kd i hi hri b).2 fun j x hj hrj=>by rcases hx:(dS ws x.Typex).testBit b with _|_;exact absurd ⟨j,x,hj,hrj,hx⟩ hno;rfl
    rw[hf]at this;cases this
   rcases hb with hb |hb;obtain⟨j,x,q1,q2,q3⟩:=find _ T.hm T.em hb;have jl:=(zG.1 q1).1;rw[hL.len]at jl;exact⟨j,x,q1,hu.r _ _ jl T.hm (by rw[T.em,q2]),q3⟩;obtain⟨j,x,q1,q2,q3⟩:=find _ T.hn T.en hb;have jl:=(zG.1 q1).1;rw[hL.len]at jl;exact⟨j,x,q1,by rw[e3];exact hu.r _ _ jl T.hn (by rw[T.en,q2]),q3⟩
  |some t=>obtain⟨ht,hc⟩:=hmt.yes _ _ _ T.km T.kn hm;have hT:=T.tot e t W;obtain⟨g1,g2⟩:=Wm hmt hL k _ _ _ (yM rep d (rep p.2.toNat)) (D+1) (hr.next e ht) (h.mrg hL (hr.mg e) hc (PK _ _ T.am.up T.an.up).pm (fun z hz=>List.mem_append_left _ (List.mem_reverse.2 hz)) fun z hz=>List.mem_append_right _ hz) (by omega);exact⟨g1,fun q hq hu=>g2 q hq (hu.mrg hL (hr.mg e) h hq fun z hz=>by rcases yD.1 hz with hz |hz;exact .inl (List.mem_reverse.1 hz);exact .inr hz).2⟩
theorem TC.qg(hL:uH N ws L)(hp:kO N D FB ws.length c rep d)(h:TC ws N L [] c rep):QG ws L rep (cG c rep):=by
 have hN:=hL.len;have hcl:=hp.len;have node:∀{i:Nat}{x:aI},(cG c rep).Nodes[i]? = some x->i<N/\c[i]? = some (celN c i)/\x=X9 rep (celN c i):=fun{i x} hx=>by
  simp only[cG,List.getElem?_map]at hx;rcases hc:c[i]? with _|y;rw[hc]at hx;cases hx;have hi:i<N:=by have:=(zG.1 hc).1;omega
  have:=hp.celN hi;rw[hc]at this;cases this;rw[hc]at hx;exact⟨hi,rfl,(Option.some.inj hx).symm⟩
 refine⟨by simp[cG,hcl,hN],fun i hi=>?_,fun i x hx hr=>?_,fun i x hx hr=>?_,fun j y a hj ha=>?_,fun i x b hx hr hb=>?_⟩;rw[hN]at hi ⊢;exact⟨hp.rok.lt i hi,hp.rok.idem i hi⟩;obtain⟨hi,hc,rfl⟩:=node hx;exact⟨hp.kd i _ hc,h.kd i hi hr⟩;obtain⟨hi,hc,rfl⟩:=node hx;exact(NH (hp.ar i _ hc).up).dis;obtain⟨b,h1,h2,h3⟩:=h.cov j y a hj ha;have jl:=(zG.1 hj).1;rw[hN]at jl;have hc:=hp.celN (hp.rok.lt j jl);refine⟨X9 rep (celN c (rep j)),wG rep b,by simp only[cG,List.getElem?_map,hc,zM],List.mem_map_of_mem h1,h2,?_⟩;simp only[wG,rI];rw[h3 rep (fun _ _ _ _ e=>e) (fun _ hz=>by cases hz)];obtain⟨hi,hc,rfl⟩:=node hx;obtain⟨b0,Gr,rfl⟩:=List.mem_map.1 hb;obtain⟨j,y,q1,q2,q3⟩:=h.snd i b0 hi hr Gr;exact⟨j,y,b0,q1,q2,q3,rfl,rfl⟩
theorem TC.clo(hL:uH N ws L)(hp:kO N D FB ws.length c rep d)(h:TC ws N L [] c rep):AS L rep:=fun i j x y a b hi hj e ha hb hf=>by
 obtain⟨a',p1,p2,p3⟩:=h.cov i x a hi ha;obtain⟨b',q1,q2,q3⟩:=h.cov j y b hj hb;have il:=(zG.1 hi).1;rw[hL.len]at il;have hc:=hp.celN (hp.rok.lt i il);rw[<-e]at q1;have hd:=(hp.ar _ _ hc).up.dis;have:a'=b':=hd.eq a' p1 b' q1 (by omega);subst this;have e1:=p3 rep (fun _ _ _ _ e=>e) (fun _ hz=>by cases hz);have e2:=q3 rep (fun _ _ _ _ e=>e) (fun _ hz=>by cases hz);omega
theorem TC.good(hL:uH N ws L)(hw:∀w∈ws,w≠0)(hp:kO N D FB ws.length c rep d)(h:TC ws N L [] c rep):¬ N2 ws L rep:=fun⟨i,hi,hb⟩=>by
 rw[hL.len]at hi;have hr:=hp.rok.lt i hi;have hid:=hp.rok.idem i hi;have hc:=hp.celN hr;have hk:=hp.kd _ _ hc;have hne:=hw _ (zX (EJ hk));obtain⟨k,w6⟩:=Nat.exists_testBit_of_ne_zero hne;obtain⟨j,x,q1,q2,q3⟩:=hb k;have:=(h.kd _ hr hid k).1 w6 j x q1 q2;rw[q3]at this;cases this
def vN(k:Nat)(x:aI):aI:=⟨x.Typex,x.Arcs.map (B6 k)⟩
theorem uy{p1 p2:List aI}{z:Nat}{l10:List aI}{rc:Int->List aI->Option (List aI)}{x:aI}(hz:p2[z]? = some x)(hx:x.Arcs.length<=12)(hp:p1.length<=1000)(hto:∀a∈x.Arcs,0<=a.To/\a.To<1000):∀(m i:Nat),x.Arcs.length-i<m->i<=x.Arcs.length->
  VW p1 p2 (z:Int) l10 rc x m (i:Int) ((x.Arcs.take i).map (B6 p1.length))=Ct (z:Int) l10 rc x (x.Arcs.map (B6 p1.length))
 |0,i,hm,_=>by omega
 |m+1,i,hm,hi=>by
  unfold VW;by_cases hlt:i<x.Arcs.length;obtain⟨a,ha,ham⟩:=dM hlt;simp only[c6,hz,aL,fO hlt,zC,ha,gI hlt (show x.Arcs.length<=9223372036854775807 by omega)];rw[dZ (by simp only[yA,List.length_take];omega)];have hw:=XX (hto a ham) (k:=p1.length) (by omega);rw[hw];have:=uy (l10:=l10) (rc:=rc) hz hx hp hto m (i+1) (by omega) (by omega);rw[gM ha,List.map_append]at this;exact this;have:i=x.Arcs.length:=by omega
  subst this;simp only[c6,hz,aL,fX hlt,zD,List.take_length]
theorem uz{p1 p2:List aI}(hp:p1.length<=1000)(uF:p2.length<=1000)(hx:∀x∈p2,x.Arcs.length<=12/\∀a∈x.Arcs,0<=a.To/\a.To<1000){n:Nat}(hn:20<=n):∀(m i:Nat),p2.length-i<m->i<=p2.length->
  HD p1 p2 n m (i:Int) (p1++(p2.take i).map (vN p1.length))=some (p1++p2.map (vN p1.length))
 |0,i,hm,_=>by omega
 |m+1,i,hm,hi=>by
  unfold HD;by_cases hlt:i<p2.length;obtain⟨x,hgx,hxm⟩:=dM hlt;obtain⟨h1,h2⟩:=hx x hxm;simp only[fO hlt,zC,c6,hgx,aL];have:=uy (l10:=p1++(p2.take i).map (vN p1.length)) (rc:=HD p1 p2 n m) hgx h1 hp h2 n 0 (by omega) (by omega);rw[zV,List.take_zero,List.map_nil]at this;rw[this,Ct,dZ (by simp only[zU,yA,List.length_take];omega),gI hlt (by omega)];have ih:=uz hp uF hx hn m (i+1) (by omega) (by omega);rw[gM hgx,List.map_append,<-zT]at ih;exact ih;have:i=p2.length:=by omega
  subst this;simp only[fX hlt,zD,Ot,List.take_length]
variable{n:Nat}
theorem z9w{p1 p2:List aI}(hp:p1.length<=1000)(uF:p2.length<=1000)(hx:∀x∈p2,x.Arcs.length<=12/\∀a∈x.Arcs,0<=a.To/\a.To<1000)(hn:2000<=n):Bf n p1 p2=some (p1++p2.map (vN p1.length)):=by
 have:=uz hp uF hx (n:=n) (by omega) n 0 (by omega) (by omega);rw[zV,List.take_zero,List.map_nil,List.append_nil]at this;rw[Bf,dZ (by omega),this]
theorem yy{H:cA}{p1:eQ}{r3:List aI}(h3:r3.length<=2000):∀(m i:Nat)(l:List Int),r3.length-i<m->i<=r3.length->l.length=i->
  VV p1 r3 m (i:Int) l=Cs p1 r3 (l++pT i (r3.length-i))
 |0,i,l,hm,_,_=>by omega
 |m+1,i,l,hm,hi,hl=>by
  unfold VV;by_cases hlt:i<r3.length;simp only[fO hlt,zC,gI hlt (show r3.length<=9223372036854775807 by omega)];rw[dZ (by omega),yy (H:=H) h3 m (i+1) (l++[(i:Int)]) (by omega) (by omega) (by simp[hl])];congr 1;have:pT i (r3.length-i)=(i:Int)::pT (i+1) (r3.length-(i+1)):=by obtain⟨k,hk⟩:∃k,r3.length-i=k+1:=⟨r3.length-i-1,by omega⟩;rw[hk,show r3.length-(i+1)=k by omega];simp only[pT,List.range_succ_eq_map,zQ,List.map_map,Nat.add_zero,List.cons.injEq,true_and];exact List.map_congr_left fun x _=>by simp only[Function.comp];omega
  rw[this];simp;have:r3.length-i=0:=by omega
  simp only[fX hlt,zD,this];simp[pT]
theorem z7r{p1:eQ}{f:aW}(hc:p1.Class.length=p1.Cells.length)(hp:p1.Cells.length<=900)(uF:f.Nodes.length<=100)(hx:∀x∈f.Nodes,x.Arcs.length<=12/\∀a∈x.Arcs,0<=a.To/\a.To<1000)(hn:3000<=n):
  Be n p1 f=some (⟨p1.H,p1.Cells++f.Nodes.map (vN p1.Cells.length),p1.Class++pT p1.Cells.length f.Nodes.length,p1.Marks⟩,(p1.Cells.length:Int)):=by
 simp only[Be,z9w (p1:=p1.Cells) (p2:=f.Nodes) (by omega) (by omega) hx (n:=n) (by omega),aL];rw[dZ (by omega),yy (H:=p1.H) (by simp only[zU,yA];omega) n p1.Cells.length p1.Class (by simp only[zU,yA];omega) (by simp only[zU,yA];omega) hc,Cs];simp only[zU,yA,Nat.add_sub_cancel_left]
structure CK(N:Nat)(cl:List Int)(r:Nat->Nat):Prop where
 len:cl.length=N
 get:∀i,i<N->cl[i]? = some (r i:Int)
 le:∀i,i<N->r i<=i
 idem:∀i,i<N->r (r i)=r i
variable{N:Nat}
variable{cl:List Int}
variable{r:Nat->Nat}
theorem CK.lt(h:CK N cl r){i:Nat}(hi:i<N):r i<N:=by have:=h.le i hi;omega
theorem CK.at(h:CK N cl r){v:Int}(hv:0<=v/\v<(N:Int)):a8 cl v=some (r v.toNat:Int):=by
 rw[show v=((v.toNat:Nat):Int) by omega,c6,h.get _ (by omega),zZ]
def jA(lo hi:Int)(l:List Int):List Int:=l.map fun x=>if x==hi then lo else x
theorem sd{N:Nat}(hN:N<=100000):∀(m i:Nat),N-i<m->i<=N->W7 (N:Int) m (i:Int) (pT 0 i)=some (pT 0 N)
 |0,i,hm,_=>by omega
 |m+1,i,hm,hi=>by
  unfold W7;by_cases hlt:i<N;simp only[fO hlt,zC,gI hlt (show N<=9223372036854775807 by omega)];rw[dZ (by rw[Vq];omega)];have:=sd hN m (i+1) (by omega) (by omega);rw[z7t,Nat.zero_add]at this;exact this;have:i=N:=by omega
  subst this;simp only[fX hlt,zD,Pp]
theorem z5z(hN:N<=100000)(hn:N<n):Ny n (N:Int)=some (pT 0 N):=by
 have:=sd hN n 0 (by omega) (by omega);rw[zV]at this;exact this
theorem qpf{α:Type}(a b:List α)(x y:α)(k:Nat)(h:a.length=k):(a++x::b).set (0+k) y=a++y::b:=by subst h;simp
theorem Lu(lo hi:Int)(a b:List Int):jA lo hi (a++b)=jA lo hi a++jA lo hi b:=List.map_append
theorem JE{lo hi x:Int}(h:(x==hi)=true):jA lo hi [x]=[lo]:=by simp only[jA,zQ,List.map_nil,h,if_true]
theorem JF{lo hi x:Int}(h:(x==hi)=false):jA lo hi [x]=[x]:=by simp only[jA,zQ,List.map_nil,h];rfl
theorem gk{x4 x6 x8 x10:Int}:∀(m:Nat)(a b:List Int),b.length<m->a.length+b.length<=100000->
  HL x4 x6 x8 x10 m (a.length:Int) (jA (if x6<x4 then x6 else x4) (if x10>x8 then x10 else x8) a++b)=some (jA (if x6<x4 then x6 else x4) (if x10>x8 then x10 else x8) (a++b))
 |0,a,b,hm,_=>by omega
 |m+1,a,[],hm,hl=>by
  unfold HL;have:decide (((a.length:Nat):Int)<((jA (if x6<x4 then x6 else x4) (if x10>x8 then x10 else x8) a++[]).length:Int))=false:=by simp[jA]
  rw[this,zD,Pn,List.append_nil,List.append_nil]
 |m+1,a,x::b,hm,hl=>by
  simp only[zO]at hm hl;unfold HL;have h1:decide (((a.length:Nat):Int)<((jA (if x6<x4 then x6 else x4) (if x10>x8 then x10 else x8) a++x::b).length:Int))=true:=by simp[jA];omega
  have h2:(jA (if x6<x4 then x6 else x4) (if x10>x8 then x10 else x8) a++x::b)[a.length]? = some x:=by rw[List.getElem?_append_right (by simp[jA])];simp[jA]
  have hw:IntKind.i64.wrap ((a.length:Int)+1)=((a.length+1:Nat):Int):=by rw[wr (by omega) (by omega)];simp
  have ih:=gk (x4:=x4) (x6:=x6) (x8:=x8) (x10:=x10) m (a++[x]) b (by omega) (by simp only[zU,zO,zS];omega);simp only[zU,zO,zS,Nat.zero_add]at ih;simp only[h1,zC,c6,h2,aL,zZ,Df,hw];have e3:a++[x]++b=a++x::b:=by simp
  by_cases e:(x==(if x10>x8 then x10 else x8))=true;rw[Lu,JE e,zT,List.cons_append,List.nil_append]at ih;rw[e,zC,qpf _ _ _ _ _ (by simp[jA]),ih,e3];rw[Bool.not_eq_true]at e;rw[Lu,JF e,zT,List.cons_append,List.nil_append]at ih;rw[e,zD,ih,e3]
variable{a:Nat}
variable{b:Nat}
theorem XL:(if(b:Int)<(a:Int)then(b:Int)else(a:Int))=((min a b:Nat):Int):=by
 split;rw[Nat.min_eq_right (by omega)];rw[Nat.min_eq_left (by omega)]
theorem Ki:(if(b:Int)>(a:Int)then(b:Int)else(a:Int))=((max a b:Nat):Int):=by
 split;rw[Nat.max_eq_right (by omega)];rw[Nat.max_eq_left (by omega)]
theorem CK.mrg(h:CK N cl r)(ha:a<N)(hb:b<N):CK N (jA ((min (r a) (r b):Nat):Int) ((max (r a) (r b):Nat):Int) cl) (fA r (min (r a) (r b)) (max (r a) (r b))):=by
 have ia:=h.idem a ha;have ib:=h.idem b hb;have hmm:r (min (r a) (r b))=min (r a) (r b):=by rcases Nat.le_total (r a) (r b)with h1 |h1;rw[Nat.min_eq_left h1,ia];rw[Nat.min_eq_right h1,ib]
 refine⟨by simp[jA,h.len],fun i hi=>?_,fun i hi=>?_,fun i hi=>?_⟩;simp only[jA,List.getElem?_map,h.get i hi,zM,zA];unfold fA;by_cases e:r i=max (r a) (r b);rw[if_pos e,e];simp;rw[if_neg e];have:((r i:Int)==((max (r a) (r b):Nat):Int))=false:=by simp only[beq_eq_false_iff_ne,ne_eq];omega
 rw[this];rfl
 ·have:=h.le i hi;unfold fA;split
  ·next e=>omega
  exact this
 have:=h.idem i hi;unfold fA;by_cases e:r i=max (r a) (r b);rw[if_pos e,hmm];split<;>rfl;rw[if_neg e,this,if_neg e]
theorem z76(h:CK N cl r)(hN:N<=100000){a b:Int}(ha:0<=a/\a<(N:Int))(hb:0<=b/\b<(N:Int))(hn:N<n):
  Bs n cl a b=some (jA ((min (r a.toNat) (r b.toNat):Nat):Int) ((max (r a.toNat) (r b.toNat):Nat):Int) cl):=by
 have hl:=h.len;simp only[Bs,h.at ha,h.at hb,aL];rw[dZ (by omega)];have:=gk (x4:=(r a.toNat:Int)) (x6:=(r b.toNat:Int)) (x8:=(r a.toNat:Int)) (x10:=(r b.toNat:Int)) n [] cl (by omega) (by simp only[zS];omega);simp only[zS,jA,List.map_nil,List.nil_append,zV]at this;rw[this,XL,Ki];rfl
theorem pb{l:List aF}{f:Int}(hl:l.length<=100000):∀(m i:Nat),l.length-i<m->i<=l.length->WG l f m (i:Int)=some (match (l.drop i).find? fun x=>x.Feat==f with |some x=>(x.To,true)|none=>(0,false))
 |0,i,hm,_=>by omega
 |m+1,i,hm,hi=>by unfold WG;by_cases hlt:i<l.length;obtain⟨x,hx,_⟩:=dM hlt;simp only[fO hlt,zC,c6,hx,aL,gI hlt (show l.length<=9223372036854775807 by omega),aQ hx,List.find?_cons];rcases e:x.Feat==f with _|_;simp only[zD];exact pb hl m (i+1) (by omega) (by omega);simp only[zC];simp only[fX hlt,zD,bG hlt,Qu,List.find?_nil]
theorem z57{l:List aF}{f:Int}(hl:l.length<=100000)(hn:l.length<n):Ol n l f=some (match l.find? fun x=>x.Feat==f with |some x=>(x.To,true)|none=>(0,false)):=by
 have:=pb (f:=f) hl n 0 (by omega) (by omega);rw[zV,List.drop_zero]at this;exact this
def ua(q:fE):Int×Int:=(q.E0,q.E1)
theorem z6j{a b:List aF}(ha:jQ a)(hb:jQ b):jQ (a++kF a b):=by
 unfold jQ at*;rw[List.pairwise_append];refine⟨ha,hb.filter _,fun x hx y hy e=>?_⟩;have:=(List.mem_filter.1 hy).2;have h2:rX a y.Feat=true:=EQ.2 ⟨x,hx,e⟩;rw[h2]at this;cases this
theorem B2{cells:List aO}{m n:Nat}{x y:aO}(hx:cells[m]? = some x)(hy:cells[n]? = some y)(hmn:m≠n)(t:Int){o:List aF}{k:Nat}(ho:o.length+k=x.arcs.length+y.arcs.length):
  tot (rW cells m n t o)+k=tot cells:=by
 have h1:=UN ⟨-1,t,o⟩ hx;have hy':(cells.set m ⟨-1,t,o⟩)[n]? = some y:=by rw[List.getElem?_set_ne hmn];exact hy
 have h2:=UN ⟨(m:Int),0,[]⟩ hy';simp only[rW,zS]at*;omega
theorem Ma{α:Type}{l:List α}{N i:Nat}(hi:i<N){x:α}(hx:l[i]? = some x):jR l 0 ((N:Int).toNat) (i:Int)=some x:=by
 rw[jR,if_pos (by simp only[zZ];omega),Nat.zero_add,zZ,hx]
theorem vr{p1:List aI}{n:Nat}{z:Int}{A:List (List aF)}{rc:Int->List fE->List (List aF)->List Int->Option (List Int)}{x y:Nat}{out:List Int}{a b:List aF}(hx:x<p1.length)(hy:y<p1.length)
  (ha:A[min x y]? = some a) (hb:A[max x y]? = some b) (hda:jQ a) (hal:a.length<=50000) (hbl:b.length<=50000) (hn:100000<=n) {T:List fE} (hT:T.length<=1000000):∀(m k:Nat),b.length-k<m->k<=b.length->
  KH p1 n z A rc (x:Int) (y:Int) (x:Int) (y:Int) out m (k:Int) (a++kF a (b.take k)) (T++(prs a (b.take k)).map pk)=
   Dg p1 z A rc (x:Int) (y:Int) out (a++kF a b) (T++(prs a b).map pk)
 |0,k,hm,_=>by omega
 |m+1,k,hm,hk=>by
  unfold KH;have h1:jR A 0 ((p1.length:Int).toNat) (if(y:Int)>(x:Int)then(y:Int)else(x:Int))=some b:=by rw[Ki];exact Ma (by omega) hb
  have h2:jR A 0 ((p1.length:Int).toNat) (if(y:Int)<(x:Int)then(y:Int)else(x:Int))=some a:=by rw[XL];exact Ma (by omega) ha
  have hpl:=US a (b.take k);have htl:(b.take k).length<=k:=by rw[List.length_take];omega
  simp only[h1,aL];by_cases hlt:k<b.length;obtain⟨v,hv,hvm⟩:=dM hlt;simp only[fO hlt,zC,c6,hv,aL,h2,z57 (f:=v.Feat) (show a.length<=100000 by omega) (show a.length<n by omega),gI hlt (show b.length<=9223372036854775807 by omega),Dl];have ih:=vr (z:=z) (rc:=rc) (out:=out) hx hy ha hb hda hal hbl hn hT m (k+1) (by omega) (by omega);rw[gM hv,Xw]at ih;cases hf:a.find? (fun w=>w.Feat==v.Feat)with
  |some w=>
   have hw:=List.mem_of_find?_eq_some hf;have hwf:w.Feat=v.Feat:=by have:=List.find?_some hf;simpa using this
   have hh:rX a v.Feat=true:=EQ.2 ⟨w,hw,hwf⟩;rw[qp3 hda hw hwf,hh]at ih;simp only[zC];rw[dZ (by simp only[zU,yA];omega)];rw[<-ih];simp[pk]
  |none=>
   have hno:∀w∈a,w.Feat≠v.Feat:=fun w hw e=>by have:=List.find?_eq_none.1 hf w hw;simp[e]at this
   have hh:rX a v.Feat=false:=by rw[Bool.eq_false_iff];intro e;obtain⟨w,hw,e⟩:=EQ.1 e;exact hno w hw e
   rw[qn1 hno,hh]at ih;simp only[zD];rw[dZ (by simp only[zU];omega)];rw[<-ih];simp
  have:k=b.length:=by omega
  subst this;simp only[fX hlt,zD,List.take_length]
theorem vt{p1:List aI}{n:Nat}{z:Int}{T:List fE}{A:List (List aF)}{rc:Int->List fE->List (List aF)->List Int->Option (List Int)}{x39 x43 x47 x51:Int}:∀(m:Nat)(a b:List Int),b.length<m->a.length+b.length<=100000->
  HM p1 n z T A rc x39 x43 x47 x51 m (a.length:Int) (jA (if x43<x39 then x43 else x39) (if x51>x47 then x51 else x47) a++b)=Dh p1 n z T A rc x39 x43 x47 x51 (jA (if x43<x39 then x43 else x39) (if x51>x47 then x51 else x47) (a++b))
 |0,a,b,hm,_=>by omega
 |m+1,a,[],hm,hl=>by
  unfold HM;have:decide (((a.length:Nat):Int)<((jA (if x43<x39 then x43 else x39) (if x51>x47 then x51 else x47) a++[]).length:Int))=false:=by simp[jA]
  rw[this,zD,List.append_nil,List.append_nil]
 |m+1,a,x::b,hm,hl=>by
  simp only[zO]at hm hl;unfold HM;have h1:decide (((a.length:Nat):Int)<((jA (if x43<x39 then x43 else x39) (if x51>x47 then x51 else x47) a++x::b).length:Int))=true:=by simp[jA];omega
  have h2:(jA (if x43<x39 then x43 else x39) (if x51>x47 then x51 else x47) a++x::b)[a.length]? = some x:=by rw[List.getElem?_append_right (by simp[jA])];simp[jA]
  have hw:IntKind.i64.wrap ((a.length:Int)+1)=((a.length+1:Nat):Int):=by rw[wr (by omega) (by omega)];simp
  have ih:=vt (p1:=p1) (n:=n) (z:=z) (T:=T) (A:=A) (rc:=rc) (x39:=x39) (x43:=x43) (x47:=x47) (x51:=x51) m (a++[x]) b (by omega) (by simp only[zU,zO,zS];omega);simp only[zU,zO,zS,Nat.zero_add]at ih;simp only[h1,zC,c6,h2,aL,zZ,Dk,hw];have e3:a++[x]++b=a++x::b:=by simp
  by_cases e:(x==(if x51>x47 then x51 else x47))=true;rw[Lu,JE e,zT,List.cons_append,List.nil_append]at ih;rw[e,zC,qpf _ _ _ _ _ (by simp[jA]),ih,e3];rw[Bool.not_eq_true]at e;rw[Lu,JF e,zT,List.cons_append,List.nil_append]at ih;rw[e,zD,ih,e3]
structure CS(N:Nat)(L:List aI)(W:List (Int×Int))(A:List (List aF))(out:List Int)(C:List aO)(r:Nat->Nat):Prop where
 ck:CK N out r
 cl:C.length=N
 al:A.length=N
 ar:∀i,i<N->r i=i->A[i]? = some (celN C i).arcs
 ds:∀i,i<N->jQ (celN C i).arcs
 pi:∀p∈W,ZK N p
 tc:TC [] N L W C r
structure CD(N:Nat)(L:List aI)(W:List (Int×Int))(r:Nat->Nat)(out':List Int)(C':List aO)(r':Nat->Nat):Prop where
 ck:CK N out' r'
 cl:C'.length=N
 ds:∀i,i<N->jQ (celN C' i).arcs
 tc:TC [] N L [] C' r'
 mono:∀i j,r i=r j->r' i=r' j
 prs:∀p∈W,r' p.1.toNat=r' p.2.toNat
 und:∀q,AS L q->MV N W r q->MV N [] r' q
theorem Up{N:Nat}{L:List aI}(hL:uH N [] L)(hN:N<=1000){n:Nat}(hn:200000<=n):∀(m z:Nat)(T:List fE)(A:List (List aF))(out:List Int)(C:List aO)(r:Nat->Nat),
  CS N L ((T.drop z).map ua) A out C r->z<=T.length->T.length-z+tot C<m->T.length+tot C<=50000->
  ∃out' C' r',uX L n m (z:Int) T A out=some out'/\CD N L ((T.drop z).map ua) r out' C' r'
 |0,z,T,A,out,C,r,_,_,hm,_=>by omega
 |m+1,z,T,A,out,C,r,h,hz,hm,hB=>by
  unfold uX;have hLl:=hL.len;by_cases hlt:z<T.length;obtain⟨p,hp,_⟩:=dM hlt;have hdr:=aQ hp;rw[hdr,zQ]at h ⊢;have hpi:=h.pi (ua p) (by simp);obtain⟨i1,i2⟩:=hpi;simp only[ua]at i1 i2;have c1:=h.ck.at i1;have c2:=h.ck.at i2;have l1:=h.ck.lt (i:=p.E0.toNat) (by omega);have l2:=h.ck.lt (i:=p.E1.toNat) (by omega);simp only[fO hlt,zC,c6,hp,aL,c1,c2];rw[XL,Ki];have hw:IntKind.i64.wrap ((z:Int)+1)=((z+1:Nat):Int):=gI hlt (by omega);by_cases e:r p.E0.toNat=r p.E1.toNat;have eb:((((min (r p.E0.toNat) (r p.E1.toNat):Nat):Int))==((max (r p.E0.toNat) (r p.E1.toNat):Nat):Int))=true:=by rw[e];simp
  rw[eb,zC,hw];obtain⟨out',C',r',g1,g2⟩:=Up hL hN hn m (z+1) T A out C r ⟨h.ck,h.cl,h.al,h.ar,h.ds,fun q hq=>h.pi q (List.mem_cons_of_mem _ hq),h.tc.skip (h.pi _ (by simp)) e⟩ (by omega) (by omega) hB;refine⟨out',C',r',g1,⟨g2.ck,g2.cl,g2.ds,g2.tc,g2.mono,fun q hq=>?_,fun q hq hu=>g2.und q hq ⟨hu.r,fun w hw=>hu.w w (List.mem_cons_of_mem _ hw)⟩⟩⟩;rcases zI.1 hq with rfl |hq;exact g2.mono _ _ e;exact g2.prs q hq;have eb:((((min (r p.E0.toNat) (r p.E1.toNat):Nat):Int))==((max (r p.E0.toNat) (r p.E1.toNat):Nat):Int))=false:=by rw[beq_eq_false_iff_ne];intro q;omega
  have idl:r (min (r p.E0.toNat) (r p.E1.toNat))=min (r p.E0.toNat) (r p.E1.toNat):=by rcases Nat.le_total (r p.E0.toNat) (r p.E1.toNat)with g |g;rw[Nat.min_eq_left g];exact h.ck.idem _ (by omega);rw[Nat.min_eq_right g];exact h.ck.idem _ (by omega)
  have idh:r (max (r p.E0.toNat) (r p.E1.toNat))=max (r p.E0.toNat) (r p.E1.toNat):=by rcases Nat.le_total (r p.E0.toNat) (r p.E1.toNat)with g |g;rw[Nat.max_eq_right g];exact h.ck.idem _ (by omega);rw[Nat.max_eq_left g];exact h.ck.idem _ (by omega)
  generalize hlo:min (r p.E0.toNat) (r p.E1.toNat)=lo at*;generalize hhi:max (r p.E0.toNat) (r p.E1.toNat)=hi at*;have llo:lo<N:=by omega
  have lhi:hi<N:=by omega
  have lne:lo≠hi:=by omega
  have a1:=h.ar lo llo idl;have a2:=h.ar hi lhi idh;have hCl:=h.cl;have clo:C[lo]? = some (celN C lo):=by rw[celN,List.getElem?_eq_getElem (by omega)];rfl
  have chi:C[hi]? = some (celN C hi):=by rw[celN,List.getElem?_eq_getElem (by omega)];rfl
  have t1:=UO clo;have t2:=UO chi;have hpl:=US (celN C lo).arcs (celN C hi).arcs;have hM:((celN C lo).arcs++kF (celN C lo).arcs (celN C hi).arcs).length+(prs (celN C lo).arcs (celN C hi).arcs).length=(celN C lo).arcs.length+(celN C hi).arcs.length:=by rw[zU];omega
  have htm:=B2 clo chi lne 0 hM;have hMg:Mg N (ua p) C r lo hi:=⟨h.cl,llo,lhi,idl,idh,lne,fun i hi=>h.ck.lt hi,h.ck.idem,h.pi _ (by simp),by simp only[ua];omega,h.ds lo llo⟩;rw[eb,zD];have l3:=vt (p1:=L) (n:=n) (z:=(z:Int)) (T:=T) (A:=A) (rc:=uX L n m) (x39:=(r p.E0.toNat:Int)) (x43:=(r p.E1.toNat:Int)) (x47:=(r p.E0.toNat:Int)) (x51:=(r p.E1.toNat:Int)) n [] out (by rw[h.ck.len];omega) (by rw[h.ck.len];simp only[zS];omega);simp only[zS,jA,List.map_nil,List.nil_append,zV]at l3;rw[l3,Dh];have i3:jR A 0 ((L.length:Int).toNat) (if(r p.E1.toNat:Int)<(r p.E0.toNat:Int)then(r p.E1.toNat:Int)else(r p.E0.toNat:Int))=some (celN C lo).arcs:=by rw[XL,hlo];exact Ma (by omega) a1
  rw[i3,aL,dZ (by omega)];have l4:=vr (p1:=L) (n:=n) (z:=(z:Int)) (A:=A) (rc:=uX L n m) (x:=r p.E0.toNat) (y:=r p.E1.toNat) (out:=List.map (fun x=>if x==(if(r p.E1.toNat:Int)>(r p.E0.toNat:Int)then(r p.E1.toNat:Int)else(r p.E0.toNat:Int))then(if(r p.E1.toNat:Int)<(r p.E0.toNat:Int)then(r p.E1.toNat:Int)else(r p.E0.toNat:Int))else x) out)
   (by omega) (by omega) (by rw[hlo];exact a1) (by rw[hhi];exact a2) (h.ds lo llo) (by omega) (by omega) (by omega) (T:=T) (by omega) n 0 (by omega) (by omega)
  simp only[List.take_zero,kF,prs,List.filter_nil,List.filterMap_nil,List.map_nil,List.append_nil,zV]at l4;rw[l4,Dg,i3,aL,hw,XL,Ki,hlo,hhi,zZ];have hprs:(celN C hi).arcs.filterMap (fun y=>Option.map (fun x=>(x.To,y.To)) ((celN C lo).arcs.find? fun x=>x.Feat==y.Feat))=prs (celN C lo).arcs (celN C hi).arcs:=rfl;have hnew:(celN C hi).arcs.filter (fun y=>!rX (celN C lo).arcs y.Feat)=kF (celN C lo).arcs (celN C hi).arcs:=rfl;rw[hprs,hnew];have hck:=h.ck.mrg (a:=p.E0.toNat) (b:=p.E1.toNat) (by omega) (by omega);rw[hlo,hhi]at hck;have hdrop:((T++(Go.Proofs.prs (celN C lo).arcs (celN C hi).arcs).map pk).drop (z+1)).map ua=(T.drop (z+1)).map ua++Go.Proofs.prs (celN C lo).arcs (celN C hi).arcs:=by rw[List.drop_append_of_le_length (by omega),List.map_append,List.map_map];congr 1;have:(ua ∘ pk)=(id:Int×Int->Int×Int):=funext fun q=>rfl;rw[this,List.map_id]
  have hcel:=bo (c:=C) (m:=lo) (n:=hi) (by omega) (by omega) lne 0 ((celN C lo).arcs++kF (celN C lo).arcs (celN C hi).arcs);have inr:∀i,i<N->r i=i->∀b∈(celN C i).arcs,0<=b.To/\b.To<(N:Int):=fun i hi hri b hb=>by obtain⟨j,c,q1,q2,q3⟩:=h.tc.snd i b hi hri hb;exact hL.ar j c b q1 q3
  have XA:∀w∈Go.Proofs.prs (celN C lo).arcs (celN C hi).arcs,w∈(T.drop (z+1)).map ua++Go.Proofs.prs (celN C lo).arcs (celN C hi).arcs:=fun w hw=>List.mem_append_right _ hw;have sF:∀w∈(T.drop (z+1)).map ua,w∈(T.drop (z+1)).map ua++Go.Proofs.prs (celN C lo).arcs (celN C hi).arcs:=fun w hw=>List.mem_append_left _ hw;have htc:=h.tc.mrg hL hMg (t:=0) (o:=(celN C lo).arcs++kF (celN C lo).arcs (celN C hi).arcs) (by simp[dS]) (List.Perm.refl _) XA sF;obtain⟨out',C',r',g1,g2⟩:=Up hL hN hn m (z+1) (T++(Go.Proofs.prs (celN C lo).arcs (celN C hi).arcs).map pk) (A.set lo ((celN C lo).arcs++kF (celN C lo).arcs (celN C hi).arcs)) (jA (lo:Int) (hi:Int) out) (rW C lo hi 0 ((celN C lo).arcs++kF (celN C lo).arcs (celN C hi).arcs)) (fA r lo hi)
   (by
    rw[hdrop];refine⟨hck,by simp[rW,h.cl],by simp[h.al],fun i hi' hri=>?_,fun i hi'=>?_,fun q hq=>?_,htc⟩;rw[hcel];have hih:i≠hi:=fun q=>by subst q;unfold fA at hri;rw[idh,if_pos rfl]at hri;exact lne hri
    rw[if_neg hih];by_cases eil:i=lo;subst eil;rw[if_pos rfl,List.getElem?_set_self (by rw[h.al];exact hi')];rw[if_neg eil,List.getElem?_set_ne (fun q=>eil q.symm)];refine h.ar i hi' ?_;unfold fA at hri;split at hri;exact absurd hri.symm eil;exact hri;rw[hcel];split;exact List.Pairwise.nil;split;exact z6j (h.ds lo llo) (h.ds hi lhi);exact h.ds i hi';rcases yD.1 hq with hq |hq;exact h.pi q (List.mem_cons_of_mem _ hq);obtain⟨x,hx,y,hy,_,rfl⟩:=Vu hq;exact⟨inr lo llo idl x hx,inr hi lhi idh y hy⟩)
   (by rw[zU];omega) (by simp only[zU,yA];omega) (by simp only[zU,yA];omega)
  rw[hdrop]at g2;refine⟨out',C',r',g1,⟨g2.ck,g2.cl,g2.ds,g2.tc,fun i j hij=>g2.mono i j (Mx hij),fun q hq=>?_,fun q hq hu=>?_⟩⟩;rcases zI.1 hq with rfl |hq;refine g2.mono _ _ ?_;simp only[ua];unfold fA;have:(r p.E0.toNat=lo/\r p.E1.toNat=hi)\/(r p.E0.toNat=hi/\r p.E1.toNat=lo):=by omega
  rcases this with⟨q1,q2⟩|⟨q1,q2⟩;rw[q1,q2,if_neg lne,if_pos rfl];rw[q1,q2,if_neg lne,if_pos rfl];exact g2.prs q (sF q hq);refine g2.und q hq (hu.mrg hL hMg h.tc hq fun w hw=>?_).2;rcases yD.1 hw with hw |hw;exact .inr hw;exact .inl hw;have:z=T.length:=by omega
  subst this;rw[List.drop_length,List.map_nil]at h ⊢;simp only[fX hlt,zD,Po];exact⟨out,C,r,rfl,h.ck,h.cl,h.ds,h.tc,fun _ _ q=>q,(fun _ hq=>(by cases hq)),fun _ _ hu=>hu⟩
end Go.Proofs
