import Derived.Test.YtldlchbgolpkaaaGreatP18
set_option linter.all false
namespace Go.Proofs
open Go Go.Rx Go.Vx Go.Shelf Go.Sort
set_option maxRecDepth 10000
inductive nH(d:List bG)(s:Str):Str->Prop
 |refl:nH d s s
 |step {t u:Str} {x:bG}:nH d s t->x∈d->x.Name=t->u∈x.Supers->nH d s u
variable{d:List bG}
variable{s:Str}
theorem nH.trans{t u:Str}(h:nH d s t)(h':nH d t u):nH d s u:=by
 induction h' with|refl=>exact h|step _ h2 h3 h4 ih=>exact .step ih h2 h3 h4
structure WL(d:List bG)(P:Str->Prop)(l:List Str):Prop where
 nod:l.Nodup
 mem:∀s∈l,kI d s/\P s
variable{l:List Str}
theorem WL.len{P:Str->Prop}(h:WL d P l):l.length<=d.length:=by
 have:=Ki (b:=d.map bG.Name) h.nod fun s hs=>by obtain⟨x,hx,rfl⟩:=(h.mem s hs).1;exact List.mem_map_of_mem hx
 rwa [yA]at this
theorem WL.snoc{d:List bG}{P:Str->Prop}{l:List Str}(h:WL d P l){s:Str}(hn:s ∉ l)(hs:kI d s/\P s):WL d P (l++[s]):=by
 refine⟨?_,fun t ht=>?_⟩;rw[List.nodup_append];exact⟨h.nod,by simp,fun a ha b hb e=>by simp at hb;subst hb;subst e;exact hn ha⟩;rcases yD.1 ht with ht |ht;exact h.mem t ht;simp at ht;subst ht;exact hs
variable{n:Nat}
theorem m?(hl:l.length<=1000)(hn:5000<=n):(∃out,PY n l n [] 0=some out/\w7 [] l out)/\∃out,PZ n l n [] 0=some out/\w7 [] l out:=by
 constructor;have:=iO (l:=l) (by omega) (F:=fun m z s=>PY n l m s z) (fun i s=>w7 [] (l.take i) s) (Q:=fun out=>w7 [] l out)
  (fun m i x s hx aG bD hw hI ih=>by have hl:=hI.len;simp at hl;obtain⟨o,h1,h2,h3,h4⟩:=Bn (l:=s) (by omega) hI.asc x (show s.length<n by omega);simp only[PY,bD,zC,cO,hx,aO,h1,hw];exact ih o (by rw[j5 hx];exact hI.next h2 h3 h4))
  (fun m s bD hI=>by simp only[PY,bD,zD,qk];rw[zW (zF _)]at hI;exact⟨s,rfl,hI⟩) n 0 [] (by omega) (by omega) (w7.nil List.Pairwise.nil)
 rw[zV]at this;exact this;have:=iO (l:=l) (by omega) (F:=fun m z s=>PZ n l m s z) (fun i s=>w7 [] (l.take i) s) (Q:=fun out=>w7 [] l out)
  (fun m i x s hx aG bD hw hI ih=>by have hl:=hI.len;simp at hl;obtain⟨o,h1,h2,h3,h4⟩:=Bn (l:=s) (by omega) hI.asc x (show s.length<n by omega);simp only[PZ,bD,zC,cO,hx,aO,h1,hw];exact ih o (by rw[j5 hx];exact hI.next h2 h3 h4))
  (fun m s bD hI=>by simp only[PZ,bD,zD,qo];rw[zW (zF _)]at hI;exact⟨s,rfl,hI⟩) n 0 [] (by omega) (by omega) (w7.nil List.Pairwise.nil)
 rw[zV]at this;exact this
theorem z2w(h:xA d)(hs:kI d s)(hn:5000<=n):∃l,Lk n d s=some l/\eV l/\l.length<=12/\∀x,x∈l↔kI d x/\nH d x s:=by
 have hd:=h.len;have key:∀(m i:Nat)(l:List Str),d.length+1-i<=m->i<=l.length->WL d (fun x=>nH d x s) l->s∈l->(∀y∈l.take i,∀x∈d,y∈x.Supers->x.Name∈l)->
   ∃r,JQ d n m i l=some r/\eV r/\r.length<=12/\∀x,x∈r↔kI d x/\nH d x s:=by
  intro m;induction m with
  |zero=>intro i l hm hi hw;have:=hw.len;omega|succ m ih=>
   intro i l hm hi hw vN fF;have A3:=hw.len;unfold JQ;by_cases aG:i<l.length;obtain⟨y,hy,ET⟩:=fA aG;simp only[j6 aG,zC];have:=iO (l:=d) (by omega) (F:=fun m' z (l':List Str)=>M7 d n i (JQ d n m) m' z l') (fun k l'=>WL d (fun x=>nH d x s) l'/\(∃t,l'=l++t)/\∀x∈d.take k,y∈x.Supers->x.Name∈l') (Q:=fun r=>eV r/\r.length<=12/\∀x,x∈r↔kI d x/\nH d x s)
    (fun m' k x l' hx qU bD uM hI kC=>by
     obtain⟨F1,⟨t,iT⟩,EZ⟩:=hI;have fQ:=zX hx;have av:=F1.len;have EU:l'[i]? = some y:=by rw[iT,List.getElem?_append_left aG];exact hy
     have Fg:=(h.siz x fQ).1;simp only[M7,bD,zC,cO,hx,aO,EU,LM (l:=x.Supers) (by omega) y (n:=n) (by omega),LM (l:=l') (by omega) x.Name (n:=n) (by omega),Mp,uM];by_cases h1:y∈x.Supers;by_cases h2:x.Name∈l';simp only[h1,h2,yC,zC,aO,Bool.not_true,zD];refine kC l' ⟨F1,⟨t,iT⟩,fun z hz Fc=>?_⟩;rw[j5 hx]at hz;rcases yD.1 hz with hz |hz;exact EZ z hz Fc;simp at hz;subst hz;exact h2;simp only[h1,h2,yC,yB,zC,aO,Bool.not_false];rw[kQ (by omega)];have hys:=(hw.mem y ET).2;refine kC (l'++[x.Name]) ⟨F1.snoc h2 ⟨⟨x,fQ,rfl⟩,(nH.step .refl fQ rfl h1).trans hys⟩,⟨t++[x.Name],by rw[iT,zT]⟩,fun z hz Fc=>?_⟩;rw[j5 hx]at hz;rcases yD.1 hz with hz |hz;exact List.mem_append_left _ (EZ z hz Fc);simp at hz;subst hz;simp;simp only[h1,yB,zD,aO];refine kC l' ⟨F1,⟨t,iT⟩,fun z hz Fc=>?_⟩;rw[j5 hx]at hz;rcases yD.1 hz with hz |hz;exact EZ z hz Fc;simp at hz;subst hz;exact absurd Fc h1)
    (fun m' l' bD hI=>by
     obtain⟨F1,⟨t,iT⟩,EZ⟩:=hI;rw[zW (zF _)]at EZ;simp only[M7,bD,zD,qj,lE aG (show l.length<=9223372036854775807 by omega)];refine ih (i+1) l' (by omega) (by rw[iT];simp;omega) F1 (by rw[iT];exact List.mem_append_left _ vN) fun z hz x hx hzx=>?_;rw[iT,List.take_append_of_le_length (by omega),j5 hy]at hz;rcases yD.1 hz with hz |hz
     rw[iT];exact List.mem_append_left _ (fF z hz x hx hzx);simp at hz;subst hz;exact EZ x hx hzx) n 0 l (by omega) (by omega) ⟨hw,⟨[],by simp⟩,by simp⟩
   rw[zV]at this;exact this;have lP:i=l.length:=by omega
   subst lP;rw[zW (zF _)]at fF;simp only[jY aG,zD,ql];obtain⟨out,g1,g2⟩:=(m? (l:=l) (by omega) hn).1;have aU:=g2.len;simp at aU;refine⟨out,g1,g2.asc,by omega,fun x=>?_⟩;rw[g2.mem];simp only[List.not_mem_nil,false_or];constructor;exact fun hx=>hw.mem x hx;rintro⟨_,hu⟩;have:∀{t:Str},nH d x t->t∈l->x∈l:=by
    intro t ht;induction ht with
    |refl=>exact id|step _ h2 h3 h4 ih=>exact fun hu=>ih (h3 ▸ fF _ hu _ h2 h4)
   exact this hu vN
 obtain⟨j,x,g1,g2,g3⟩:=sb (d:=d) (by omega) hs (n:=n) (by omega);have hj:¬ (j:Int)<0:=by omega
 simp only[Lk,g3,aO,hj,yB,zD];have:=key n 0 [s] (by omega) (by omega) ⟨by simp,fun t ht=>by simp at ht;subst ht;exact⟨hs,.refl⟩⟩ (by simp) (by simp);rw[zV]at this;exact this
theorem qrt(h:Ja d){x y:bG}(hx:x∈d)(hy:y∈d)(e:x.Name=y.Name):x=y:=by
 have:=h.nod;clear h;induction d with
 |nil=>cases hx|cons z d ih=>rw[zQ,List.nodup_cons]at this;rcases zI.1 hx with h1 |h1;rcases zI.1 hy with h2 |h2;rw[h1,h2];exact absurd (List.mem_map.2 ⟨y,h2,by rw[<-e,h1]⟩) this.1;rcases zI.1 hy with h2 |h2;exact absurd (List.mem_map.2 ⟨x,h1,by rw[e,h2]⟩) this.1;exact ih h1 h2 this.2
theorem z2r(h:xA d)(hs:kI d s)(hn:5000<=n):∃l,Ll n d s=some l/\eV l/\l.length<=12/\∀x,x∈l↔kI d x/\nH d s x:=by
 have hd:=h.len;have key:∀(m i:Nat)(l:List Str),d.length+1-i<=m->i<=l.length->WL d (fun x=>nH d s x) l->s∈l->(∀y∈l.take i,∀x∈d,x.Name=y->∀u∈x.Supers,u∈l)->
   ∃r,JR d n m i l=some r/\eV r/\r.length<=12/\∀x,x∈r↔kI d x/\nH d s x:=by
  intro m;induction m with
  |zero=>intro i l hm hi hw;have:=hw.len;omega|succ m ih=>
   intro i l hm hi hw vN fF;have A3:=hw.len;unfold JR;by_cases aG:i<l.length;obtain⟨y,hy,ET⟩:=fA aG;obtain⟨j,x,g1,g2,g3⟩:=sb (d:=d) (by omega) (hw.mem y ET).1 (n:=n) (by omega);have fQ:=zX g1;have Fg:=(h.siz x fQ).1;simp only[j6 aG,zC,cO,hy,aO,g3,g1];have:=iO (l:=x.Supers) (by omega) (F:=fun m' z (l':List Str)=>M8 n i (JR d n m) x m' z l') (fun k l'=>WL d (fun x=>nH d s x) l'/\(∃t,l'=l++t)/\∀u∈x.Supers.take k,u∈l') (Q:=fun r=>eV r/\r.length<=12/\∀x,x∈r↔kI d x/\nH d s x)
    (fun m' k u l' hu qU bD uM hI kC=>by obtain⟨F1,⟨t,iT⟩,EZ⟩:=hI;have xy:=zX hu;have av:=F1.len;simp only[M8,bD,zC,cO,hu,aO,LM (l:=l') (by omega) u (n:=n) (by omega),Mq,uM];by_cases h2:u∈l';simp only[h2,yC,Bool.not_true,zD];refine kC l' ⟨F1,⟨t,iT⟩,fun z hz=>?_⟩;rw[j5 hu]at hz;rcases yD.1 hz with hz |hz;exact EZ z hz;simp at hz;subst hz;exact h2;simp only[h2,yB,Bool.not_false,zC];rw[kQ (by omega)];refine kC (l'++[u]) ⟨F1.snoc h2 ⟨(h.sup x fQ).1 u xy,.step (hw.mem y ET).2 fQ g2 xy⟩,⟨t++[u],by rw[iT,zT]⟩,fun z hz=>?_⟩;rw[j5 hu]at hz;rcases yD.1 hz with hz |hz;exact List.mem_append_left _ (EZ z hz);simp at hz;subst hz;simp)
    (fun m' l' bD hI=>by
     obtain⟨F1,⟨t,iT⟩,EZ⟩:=hI;rw[zW (zF _)]at EZ;simp only[M8,bD,zD,qn,lE aG (show l.length<=9223372036854775807 by omega)];refine ih (i+1) l' (by omega) (by rw[iT];simp;omega) F1 (by rw[iT];exact List.mem_append_left _ vN) fun z hz w uM xq u hu=>?_;rw[iT,List.take_append_of_le_length (by omega),j5 hy]at hz;rcases yD.1 hz with hz |hz
     rw[iT];exact List.mem_append_left _ (fF z hz w uM xq u hu);simp at hz;subst hz;have:=qrt h.nam uM fQ (xq.trans g2.symm);subst this;exact EZ u hu) n 0 l (by omega) (by omega) ⟨hw,⟨[],by simp⟩,by simp⟩
   rw[zV]at this;exact this;have lP:i=l.length:=by omega
   subst lP;rw[zW (zF _)]at fF;simp only[jY aG,zD,qp];obtain⟨out,g1,g2⟩:=(m? (l:=l) (by omega) hn).2;have aU:=g2.len;simp at aU;refine⟨out,g1,g2.asc,by omega,fun x=>?_⟩;rw[g2.mem];simp only[List.not_mem_nil,false_or];constructor;exact fun hx=>hw.mem x hx;rintro⟨_,hu⟩;clear g1 g2;induction hu with
   |refl=>exact vN|step h1 h2 h3 h4 ih=>exact fF _ (ih ⟨_,h2,h3⟩) _ h2 h3 _ h4
 obtain⟨j,x,g1,g2,g3⟩:=sb (d:=d) (by omega) hs (n:=n) (by omega);have hj:¬ (j:Int)<0:=by omega
 simp only[Ll,g3,aO,hj,yB,zD];have:=key n 0 [s] (by omega) (by omega) ⟨by simp,fun t ht=>by simp at ht;subst ht;exact⟨hs,.refl⟩⟩ (by simp) (by simp);rw[zV]at this;exact this
theorem z7u(h:xA d){a b:Str}(ha:kI d a)(hb:kI d b)(h1:nH d a b)(h2:nH d b a):a=b:=by
 obtain⟨l,hl,aU⟩:=h.ord;have cH:∀s,kI d s->s∈l:=fun s ⟨x,hx,e⟩=>by
  apply Classical.byContradiction;intro hn;have h3:=Ki (a:=s::l) (b:=d.map bG.Name) (List.nodup_cons.2 ⟨hn,hl.nodup.1⟩) fun t ht=>by rcases zI.1 ht with rfl |ht;rw[<-e];exact List.mem_map_of_mem hx;obtain⟨y,hy,rfl⟩:=hl.nodup.2 t ht;exact List.mem_map_of_mem hy
  simp at h3;omega
 have oF:∀{l:List Str},Ord d l->∀s∈l,∀t,nH d s t->∃l1 l2,l=l1++s::l2/\(t=s\/t∈l1):=by
  intro l hl;induction hl with
  |nil=>intro s hs;cases hs| @snoc l x g1 g2 g3 g4 ih=>
   have fF:∀s∈l,∀t,nH d s t->t∈l:=fun s hs t ht=>by obtain⟨l1,l2,e1,e2⟩:=ih s hs t ht;rcases e2 with rfl |e2;exact hs;rw[e1];exact List.mem_append_left _ e2
   intro s hs t ht;rcases yD.1 hs with hs |hs;obtain⟨l1,l2,e1,e2⟩:=ih s hs t ht;exact⟨l1,l2++[x.Name],by rw[e1];simp,e2⟩;simp at hs;subst hs;refine⟨l,[],rfl,?_⟩;induction ht with
   |refl=>exact .inl rfl|step _ h2 h3 h4 kC=>rcases kC with e |e;have:=qrt h.nam h2 g2 (h3.trans e);subst this;exact .inr (g4 _ h4);exact .inr (fF _ e _ (.step .refl h2 h3 h4))
 obtain⟨l1,l2,e1,e2⟩:=oF hl a (cH a ha) b h1;obtain⟨l3,l4,e3,e4⟩:=oF hl b (cH b hb) a h2;rcases e2 with e2 |e2;exact e2.symm;rcases e4 with e4 |e4;exact e4
 ·-- b ahead of a,and a ahead of b
  have hn:=hl.nodup.1;obtain⟨p,q,e5⟩:=List.append_of_mem e2;rw[e5]at e1;have:l3=p:=by
   have y7:b ∉ p:=fun hp=>by rw[e1]at hn;simp only[zT,List.cons_append]at hn;rw[List.nodup_append]at hn;exact hn.2.2 b hp b (by simp) rfl
   have hb3:b ∉ l3:=fun hp=>by rw[e3,List.nodup_append]at hn;exact hn.2.2 b hp b (by simp) rfl
   rw[e1]at e3;simp only[zT,List.cons_append]at e3;clear e1 hn e5 e4 hl;induction p generalizing l3 with
   |nil=>rcases l3 with _|⟨z,l3⟩;rfl;simp at e3;exact absurd (by rw[e3.1];simp) hb3
   |cons y p ihp=>rcases l3 with _|⟨z,l3⟩;simp at e3;exact absurd (by rw[<-e3.1];simp) y7;simp at e3;rw[<-e3.1,ihp l3 (fun hh=>y7 (List.mem_cons_of_mem _ hh)) (fun hh=>hb3 (List.mem_cons_of_mem _ hh)) e3.2]
  rw[this]at e4;rw[e1]at hn;exact absurd rfl ((List.nodup_append.1 hn).2.2 a (List.mem_append_left _ e4) a (by simp))
theorem qu2(h:xA d)(hl:l.length<=1000)(hn:5000<=n):∃out,qf n d l=some out/\eV out/\out.length<=l.length/\∀x∈out,x∈l/\kI d x:=by
 have hd:=h.len;have:=iO (l:=l) (by omega) (F:=fun m z s=>MC d l n m s z) (fun i s=>eV s/\s.length<=i/\∀x∈s,x∈l/\kI d x) (Q:=fun out=>eV out/\out.length<=l.length/\∀x∈out,x∈l/\kI d x)
  (fun m i x s hx aG bD hw hI ih=>by
   obtain⟨i1,i2,i3⟩:=hI;simp only[MC,bD,zC,cO,hx,aO,Ng,hw];rcases LH (d:=d) (by omega) x (show d.length<n by omega)with⟨j,y,g1,g2,g3,g4⟩|⟨g1,g2⟩;obtain⟨o,h1,h2,h3,h4⟩:=Bn (l:=s) (by omega) i1 x (show s.length<n by omega);have hj:(j:Int)>=0:=by omega
   simp only[g4,aO,hj,yC,zC,h1];refine ih o ⟨h4,by omega,fun z hz=>?_⟩;rcases(h2 z).1 hz with rfl |hz;exact⟨zX hx,y,zX g1,g2⟩;exact i3 z hz;simp only[g2,aO];exact ih s ⟨i1,by omega,i3⟩)
  (fun m s bD hI=>by simp only[MC,bD,zD,zw];exact⟨s,rfl,hI⟩) n 0 [] (by omega) (by omega) ⟨List.Pairwise.nil,by simp,by simp⟩
 rw[zV]at this;exact this
theorem qp5(h:xA d)(hl:l.length<=1000)(hn:5000<=n):∃out,Dn n d l=some out/\out.length<=l.length/\∀x∈out,x∈l/\kI d x:=by
 obtain⟨all,a1,a2,a3,a4⟩:=qu2 h hl hn;have:=iO (l:=all) (by omega) (F:=fun m z s=>GB d n all m z s) (fun i s=>s.length<=i/\∀x∈s,x∈l/\kI d x) (Q:=fun out=>out.length<=l.length/\∀x∈out,x∈l/\kI d x)
  (fun m i x s hx aG bD hw hI ih=>by
   obtain⟨i2,i3⟩:=hI;have fQ:=a4 x (zX hx);obtain⟨up,u1,u2,u3,u4⟩:=z2r h fQ.2 hn;simp only[GB,bD,zC,cO,hx,aO,u1];have:=iO (l:=all) (by omega) (F:=fun m' z b=>WD n all i s (GB d n all m) up m' b z) (fun _ _=>True) (Q:=fun out=>out.length<=l.length/\∀x∈out,x∈l/\kI d x)
    (fun m' k y b hy qU d6 yY _ kC=>by
     simp only[WD,d6,zC,yY,cO,hy,aO,LM (l:=up) (by omega) y (n:=n) (by omega)];cases b with
     |true=>rcases((k:Int)==(i:Int))with _|_;exact kC _ trivial;exact kC true trivial
     |false=>exact kC false trivial)
    (fun m' b d6 _=>by
     simp only[WD,d6,zD,zo,Nf,hw,cO,hx,aO];cases b with
     |true=>simp only[zC];rw[kQ (by omega)];refine ih (s++[x]) ⟨by simp;omega,fun z hz=>?_⟩;rcases yD.1 hz with hz |hz;exact i3 z hz;simp at hz;subst hz;exact fQ
     |false=>exact ih s ⟨by omega,i3⟩) n 0 true (by omega) (by omega) trivial
   rw[zV]at this;exact this)
  (fun m s bD hI=>by simp only[GB,bD,zD,zp];exact⟨s,rfl,by omega,hI.2⟩) n 0 [] (by omega) (by omega) ⟨by simp,by simp⟩
 rw[zV]at this;rw[Dn,a1];exact this
variable{d:List bG}
variable{n:Nat}
theorem z6p(h:xA d){all:List Str}(A6:all.length<=12){s:Str}(hs:kI d s)(ha:∀x∈all,kI d x)(hn:5000<=n):∃w,Ku n d all s=some (bt w)/\w<4096/\∀i,w.testBit i=true↔∃t,all[i]? = some t/\nH d t s:=by
 obtain⟨low,b1,b2,b3,b4⟩:=z2w h hs hn;have:=iO (l:=all) (by omega) (F:=fun m z (s:List Nat)=>M1 all n low m z (s.map fun(i:Nat)=>(i:Int))) (fun i s=>s.length<=i/\∀j,j∈s↔j<i/\∃t,all[j]? = some t/\t∈low) (Q:=fun r=>∃w,r=bt w/\w<4096/\∀i,w.testBit i=true↔∃t,all[i]? = some t/\nH d t s)
  (fun m i x s' hx aG bD hw hI ih=>by
   obtain⟨i1,i2⟩:=hI;simp only[M1,bD,zC,cO,hx,aO,LM (l:=low) (by omega) x (n:=n) (by omega),Mi,hw,yA];by_cases hm:x∈low;simp only[hm,yC,zC];rw[kQ (by omega)];have:=ih (s'++[i]) ⟨by simp;omega,fun j=>by rw[yD,i2,List.mem_singleton];constructor;rintro(⟨h1,h2⟩|rfl);exact⟨by omega,h2⟩;exact⟨by omega,x,hx,hm⟩;rintro⟨h1,h2⟩;by_cases e:j=i;exact .inr e;exact .inl ⟨by omega,h2⟩⟩;rw[List.map_append]at this;exact this;simp only[hm,yB,zD];exact ih s' ⟨by omega,fun j=>by
    rw[i2];constructor;rintro⟨h1,h2⟩;exact⟨by omega,h2⟩;rintro⟨h1,t,h2,h3⟩;refine⟨?_,t,h2,h3⟩;have:j≠i:=fun e=>by subst e;rw[hx]at h2;cases h2;exact hm h3
    omega⟩)
  (fun m s' bD hI=>by
   obtain⟨i1,i2⟩:=hI;have eX:∀i∈s',i<12:=fun i hi=>by have:=((i2 i).1 hi).1;omega
   simp only[M1,bD,zD,Zi,Oh (l:=s') (by omega) eX hn,aO];refine⟨_,rfl,GC s',rfl,vh s' 0 eX (by omega),fun i=>?_⟩;rw[GC,j_];simp only[Nat.zero_testBit,Bool.false_or,decide_eq_true_eq];rw[i2];constructor;rintro⟨_,t,h1,h2⟩;exact⟨t,h1,((b4 t).1 h2).2⟩;rintro⟨t,h1,h2⟩;exact⟨(zG.1 h1).1,t,h1,(b4 t).2 ⟨ha t (zX h1),h2⟩⟩) n 0 [] (by omega) (by omega) ⟨by simp,fun j=>by simp⟩
 obtain⟨r,h1,w,rfl,h2,h3⟩:=this;rw[zV]at h1;exact⟨w,by simp only[Ku,b1,aO];exact h1,h2,h3⟩
structure FI(c0 ws:List Nat):Prop where
 pre:∃t,ws=c0++t
 nod:ws.Nodup
 ok:∀a∈ws,a<4096/\a≠0/\∃b∈c0,a&&&b=a
 len:ws.length<=257
def IJ(ws:List Nat)(i k:Nat):Prop:=∀i' k' a b,k'<i'->(i'<i\/(i'=i/\k'<k))->ws[i']? = some a->ws[k']? = some b->a&&&b=0\/a&&&b∈ws
variable{ws:List Nat}
theorem IJ.app{t:List Nat}{i k:Nat}(h:IJ ws i k)(hi:i<ws.length):IJ (ws++t) i k:=fun i' k' a b h1 h2 h3 h4=>by
 have e1:i'<ws.length:=by omega
 rw[List.getElem?_append_left e1]at h3;rw[List.getElem?_append_left (by omega)]at h4;rcases h i' k' a b h1 h2 h3 h4 with h5 |h5;exact .inl h5;exact .inr (List.mem_append_left _ h5)
theorem Wc{c0:List Nat}{n:Nat}(hn:5000<=n){i:Nat}{rc:Int->List (List Int)->Option (List (List Int))}{Q:List (List Int)->Prop}(HC:i<=256)(Y2:∀ws',FI c0 ws'->i<ws'.length->(ws'.length<=256->IJ ws' (i+1) 0)->∃r,rc ((i+1:Nat):Int) (ws'.map bt)=some r/\Q r):
  ∀(m k:Nat)(ws:List Nat),i-k<m->k<=i->FI c0 ws->i<ws.length->(ws.length<=256->IJ ws i k)->∃r,Q0 n i rc m k (ws.map bt)=some r/\Q r
 |0,k,ws,hm,_,_,_,_=>by omega
 |m+1,k,ws,hm,hk,hf,hi,hc=>by
  have hl:=hf.len;have xv:IntKind.i64.wrap ((i:Int)+1)=((i+1:Nat):Int):=FJ (by omega) (by omega);unfold Q0;by_cases aG:k<i;have e0:decide ((k:Int)<(i:Int))=true:=by simp;omega
  simp only[e0,zC,yA];by_cases A9:ws.length<=256;obtain⟨a,ha,vO⟩:=fA hi;obtain⟨b,hb,jt⟩:=fA (show k<ws.length by omega);have e1:decide ((ws.length:Int)<=256)=true:=by simp;omega
  have ga:(ws.map bt)[i]? = some (bt a):=by rw[List.getElem?_map,ha];rfl
  have gb:(ws.map bt)[k]? = some (bt b):=by rw[List.getElem?_map,hb];rfl
  have xu:IntKind.i64.wrap ((k:Int)+1)=((k+1:Nat):Int):=FJ (by omega) (by omega);have oka:=hf.ok a vO;have okb:=hf.ok b jt;simp only[e1,aO,zC,cO,ga,gb,K_ oka.1 okb.1 (show 5<=n by omega),Ph (ws:=ws) (by omega) (b:=a&&&b) hn,Mw,xu];have u7:∀t,(a&&&b=0\/a&&&b∈ws++t)->IJ (ws++t) i (k+1):=fun t ht i' k' x y h1 h2 h3 h4=>by by_cases e:i'=i/\k'=k;obtain⟨rfl,rfl⟩:=e;rw[List.getElem?_append_left hi,ha]at h3;rw[List.getElem?_append_left (by omega),hb]at h4;cases h3;cases h4;exact ht;exact(hc A9).app hi i' k' x y h1 (by omega) h3 h4
  by_cases hz:a&&&b=0;have e2:decide (((bt (a&&&b)).length:Int)>0)=false:=by rw[hz];simp[SY]
  simp only[e2,zD,aO];refine Wc hn HC Y2 m (k+1) ws (by omega) (by omega) hf hi fun _=>?_;have:=u7 [] (.inl hz)
  rwa [List.append_nil]at this
  have e2:decide (((bt (a&&&b)).length:Int)>0)=true:=by rw[rY hz];simp
  simp only[e2,zC,aO];by_cases eG:a&&&b∈ws;simp only[eG,yC,Bool.not_true,zD];refine Wc hn HC Y2 m (k+1) ws (by omega) (by omega) hf hi fun _=>?_;have:=u7 [] (.inr (by simpa using eG))
  rwa [List.append_nil]at this
  simp only[eG,yB,Bool.not_false,zC];rw[kQ (by omega)];have Rf:FI c0 (ws++[a&&&b]):=by obtain⟨t,ht⟩:=hf.pre;refine⟨⟨t++[a&&&b],by rw[ht,zT]⟩,?_,fun c hc=>?_,by simp;omega⟩;rw[List.nodup_append];exact⟨hf.nod,by simp,fun x hx y hy e=>by simp at hy;subst hy;subst e;exact eG hx⟩;rcases yD.1 hc with hc |hc;exact hf.ok c hc;simp at hc;subst hc;obtain⟨g,hg,eg⟩:=oka.2.2;refine⟨Nat.lt_of_le_of_lt Nat.and_le_left oka.1,hz,g,hg,?_⟩;rw[Nat.and_assoc,Nat.and_comm b g,<-Nat.and_assoc,eg]
  have:=Wc hn HC Y2 m (k+1) (ws++[a&&&b]) (by omega) (by omega) Rf (by simp;omega) fun _=>u7 [a&&&b] (.inr (by simp));rw[List.map_append]at this;exact this;have e1:decide ((ws.length:Int)<=256)=false:=by simp;omega
  simp only[e1,aO,zD,Mu,xv];exact Y2 ws hf hi fun h=>absurd h A9;have e0:decide ((k:Int)<(i:Int))=false:=by simp;omega
  simp only[e0,zD,aO,Mu,xv];refine Y2 ws hf hi fun h i' k' a b h1 h2 h3 h4=>hc h i' k' a b h1 (by omega) h3 h4
theorem B_{c0:List Nat}{n:Nat}(hn:5000<=n):∀(m i:Nat)(ws:List Nat),258-i<=m->i<=257->FI c0 ws->i<=ws.length->(ws.length<=256->IJ ws i 0)->
  ∃r,JS n m i (ws.map bt)=some r/\∃ws',r=ws'.map bt/\FI c0 ws'/\(ws'.length<=256->IJ ws' ws'.length 0)
 |0,i,ws,hm,_,_,_,_=>by omega
 |m+1,i,ws,hm,hi,hf,Fm,hc=>by
  have hl:=hf.len;unfold JS;simp only[yA];by_cases aG:i<ws.length;by_cases A9:ws.length<=256;have e1:decide ((ws.length:Int)<=256)=true:=by simp;omega
  simp only[j6 aG,zC,e1,aO];have:=Wc (c0:=c0) hn (i:=i) (rc:=JS n m) (Q:=fun r=>∃ws',r=ws'.map bt/\FI c0 ws'/\(ws'.length<=256->IJ ws' ws'.length 0)) (by omega) (fun ws' f1 f2 f3=>B_ hn m (i+1) ws' (by omega) (by omega) f1 (by omega) f3) n 0 ws (by omega) (by omega) hf aG hc;rw[zV]at this;exact this;have e1:decide ((ws.length:Int)<=256)=false:=by simp;omega
  simp only[j6 aG,zC,e1,aO,zD,Mv];exact⟨_,rfl,ws,rfl,hf,fun h=>absurd h A9⟩;simp only[jY aG,zD,aO,Mv];have:i=ws.length:=by omega
  exact⟨_,rfl,ws,rfl,hf,this ▸ hc⟩
def O3(ws:List Nat):Prop:=∀a∈ws,∀b∈ws,a&&&b≠0->a&&&b∈ws
theorem IJ.all(h:IJ ws ws.length 0):O3 ws:=fun a ha b hb cW=>by
 obtain⟨i,hi,rfl⟩:=List.mem_iff_getElem.1 ha;obtain⟨k,hk,rfl⟩:=List.mem_iff_getElem.1 hb;by_cases e:i=k;subst e;rw[Nat.and_self];exact ha;by_cases aG:k<i;exact(h i k _ _ aG (.inl hi) (List.getElem?_eq_getElem hi) (List.getElem?_eq_getElem hk)).resolve_left cW;rw[Nat.and_comm]at cW ⊢;exact(h k i _ _ (by omega) (.inl hk) (List.getElem?_eq_getElem hk) (List.getElem?_eq_getElem hi)).resolve_left cW
theorem qz8{c0:List Nat}(hl:c0.length<=12)(Qk:c0.Nodup)(hc:∀a∈c0,a<4096/\a≠0)(hn:5000<=n):∃ws,Lu n (c0.map bt)=some (ws.map bt)/\FI c0 ws/\(ws.length<=256->O3 ws):=by
 obtain⟨r,h1,ws,rfl,h2,h3⟩:=B_ (c0:=c0) hn n 0 c0 (by omega) (by omega) ⟨⟨[],by simp⟩,Qk,fun a ha=>⟨(hc a ha).1,(hc a ha).2,a,ha,Nat.and_self a⟩,by omega⟩ (by omega) (fun _ i' k' a b h1 h2=>by omega);rw[zV]at h1;refine⟨ws,?_,h2,fun h=>(h3 h).all⟩;rw[Lu,kQ (by rw[yA];omega)];exact h1
theorem XE{l:List Str}(hl:l.length<=12)(hs:∀s∈l,s.length<=32)(hn:5000<=n):∃s,JM l n [] 0=some s:=by
 have:=iO (l:=l) (by omega) (F:=fun m z s=>JM l m s z) (fun i s=>s.length<=33*i) (Q:=fun _=>True)
  (fun m i x s hx aG bD hw hI ih=>by
   have GW:=hs x (zX hx);simp only[JM,bD,zC,Mh,cO,hx,aO,hw];cases decide ((i:Int)>0)with
   |true=>simp only[zC];rw[kQ (by show s.length+1<=_;omega),kQ (by rw[zU];show s.length+1+x.length<=_;omega)];exact ih _ (by rw[zU,zU];show s.length+1+x.length<=_;omega)|false=>simp only[zD];rw[kQ (by omega)];exact ih _ (by rw[zU];omega))
  (fun m s bD hI=>by simp only[JM,bD,zD,Zg];exact⟨s,rfl,trivial⟩) n 0 [] (by omega) (by omega) (by simp)
 obtain⟨s,h1,_⟩:=this;exact⟨s,h1⟩
theorem qw7(h:xA d){all:List Str}(A6:all.length<=12){c0:List Nat}(DD:c0.length=all.length)(hc:∀a∈c0,a<4096){w:Nat}(hw:w<4096)(hn:5000<=n):
  ∃s,Kt n d all (c0.map bt) (bt w)=some s/\∀(i:Nat)(t:Str),c0.Nodup->c0[i]? = some w->all[i]? = some t->s=t:=by
 have:=iO (l:=all) (by omega) (F:=fun m z s=>LZ d all (c0.map bt) (bt w) n m z s) (fun i (s:List Str)=>s.length<=i/\∀j,j<i->c0[j]? ≠some w) (Q:=fun s=>∀(i:Nat)(t:Str),c0.Nodup->c0[i]? = some w->all[i]? = some t->s=t)
  (fun m i x s hx aG bD uM hI ih=>by
   obtain⟨a,ha,vO⟩:=fA (l:=c0) (show i<c0.length by omega);have ga:(c0.map bt)[i]? = some (bt a):=by rw[List.getElem?_map,ha];rfl
   simp only[LZ,bD,zC,cO,ga,hx,aO,Xi (hc a vO) hw (show 5<=n by omega),u_ (w:=w) (n:=n) hw (show i<64 by omega),Mf,uM];by_cases e:a=w;subst e;simp only[yC,zC];refine⟨x,rfl,fun k t K3 hk ht=>?_⟩;obtain⟨p1,p2⟩:=zG.1 ha;obtain⟨q1,q2⟩:=zG.1 hk;have:i=k:=(List.getElem_inj K3).1 (p2.trans q2.symm);subst this;rw[hx]at ht;exact Option.some.inj ht;have hJ:∀j,j<i+1->c0[j]? ≠some w:=fun j hj=>by by_cases e2:j=i;subst e2;rw[ha];exact fun h=>e (Option.some.inj h);exact hI.2 j (by omega)
   simp only[e,yB,zD];cases w.testBit i with
   |true=>simp only[zC];rw[kQ (by have:=hI.1;omega)];exact ih (s++[x]) ⟨by have:=hI.1;simp;omega,hJ⟩|false=>exact ih s ⟨by have:=hI.1;omega,hJ⟩)
  (fun m s bD hI=>by obtain⟨out,m1,m2,m3⟩:=qp5 h (l:=s) (by have:=hI.1;omega) hn;obtain⟨r,j1⟩:=XE (l:=out) (by have:=hI.1;omega) (fun t ht=>by obtain⟨x,hx,e⟩:=(m3 t ht).2;have:=(h.nam.len x hx).2;rw[e]at this;exact this) hn;simp only[LZ,bD,zD,Zh,m1,aO];refine⟨r,j1,fun i t _ hi _=>absurd hi (hI.2 i ?_)⟩;have:=(zG.1 hi).1;omega) n 0 [] (by omega) (by omega) ⟨by simp,fun j hj=>by omega⟩
 rw[zV]at this;exact this
def cw:List Int->Nat
 |[z]=>z.toNat|_=>0
theorem G0(w:Nat):cw (bt w)=w:=by
 by_cases h:w=0;subst h;rfl;rw[rY h];simp[cw]
def cnt(x:dG):Nat:=(bl (cw x.Code)).length
theorem qyl{x y:dG}{a b:Nat}(hx:x.Code=bt a)(hy:y.Code=bt b)(ha:a<4096)(hb:b<4096)(hn:5000<=n):∃r,Lv n x y=some r/\(r=true->cnt y<=cnt x)/\(r=false->cnt x<=cnt y):=by
 have e1:cnt x=(bl a).length:=by rw[cnt,hx,G0]
 have e2:cnt y=(bl b).length:=by rw[cnt,hy,G0]
 rw[e1,e2];simp only[Lv,hx,hy,qvd ha (show 100<=n by omega),qvd hb (show 100<=n by omega),aO];by_cases h1:((bl a).length:Int)>((bl b).length:Int);simp only[h1,yC,zC,aO];exact⟨true,rfl,fun _=>by omega,fun h=>by cases h⟩;simp only[h1,yB,zD];by_cases h2:((bl a).length:Int)=((bl b).length:Int);have:(((bl a).length:Int)==((bl b).length:Int))=true:=by simpa using h2
 simp only[this,zC,aO];exact⟨_,rfl,fun _=>by omega,fun _=>by omega⟩;have:(((bl a).length:Int)==((bl b).length:Int))=false:=by simpa using h2
 simp only[this,zD,aO];exact⟨false,rfl,fun h=>(by cases h),fun _=>by omega⟩
structure CI(nm:Nat->Option Str)(ws:List Nat)(l:List dG):Prop where
 perm:(l.map dG.Code).Perm (ws.map bt)
 nam:∀w∈ws,∃x∈l,x.Code=bt w/\nm w=some x.Name
 srt:l.Pairwise fun a b=>cnt b<=cnt a
variable{nm:Nat->Option Str}
variable{l:List dG}
theorem CI.len(h:CI nm ws l):l.length=ws.length:=by
 have:=h.perm.length_eq
 rwa [yA,yA]at this
theorem CI.cod(h:CI nm ws l):∀x∈l,∃w∈ws,x.Code=bt w:=fun x hx=>by
 have:=h.perm.mem_iff.1 (List.mem_map_of_mem (f:=dG.Code) hx);obtain⟨w,hw,e⟩:=List.mem_map.1 this;exact⟨w,hw,e.symm⟩
theorem Ow(h:CI nm ws l)(hl:l.length<=300)(hws:∀w∈ws,w<4096){w:Nat}(hw:w<4096){s:Str}(hs:nm w=some s)(hn:5000<=n){iU:Int}{rc:Int->List dG->Option (List dG×Int)}{Q:List dG×Int->Prop}
  (Y2:∀l',CI nm (ws++[w]) l'->∃r,rc (IntKind.i64.wrap (iU+1)) l'=some r/\Q r):
  ∀(m z:Nat),z<m->z<=l.length->(∀y∈l.drop z,cnt y<=cnt ⟨s,bt w⟩)->∃r,Ds n iU l rc s (bt w) m z=some r/\Q r:=by
 have fin:∀z,z<=l.length->(∀y∈l.drop z,cnt y<=cnt ⟨s,bt w⟩)->(∀y∈l.take z,cnt ⟨s,bt w⟩<=cnt y)->∃r,Mm iU l rc s (bt w) z=some r/\Q r:=by
  intro z hz R2 jk;have t1:((l.drop 0).take ((z:Int)).toNat)=l.take z:=by rw[List.drop_zero,zZ]
  have t2:((l.drop (0+((z:Int)).toNat)).take (l.length-((z:Int)).toNat))=l.drop z:=by rw[zZ,Nat.zero_add];exact zW (by simp)
  have tl:(l.take z).length=z:=by simp;omega
  have dl:(l.drop z).length=l.length-z:=by simp
  simp only[Mm,t1,t2];rw[kQ (by omega),kQ (by rw[zZ];omega),kQ (by rw[tl];omega),kQ (by rw[tl];omega),kQ (by omega),kQ (by rw[zZ];omega),kQ (by rw[zU,tl,dl];simp;omega)];refine Y2 _ ⟨?_,fun v hv=>?_,?_⟩;have hp:((l.take z++[dG.mk s (bt w)])++l.drop z).Perm (l++[dG.mk s (bt w)]):=by rw[zT];refine(List.perm_append_comm_assoc _ _ _).trans ?_;rw[List.take_append_drop];exact List.perm_append_comm
  refine(hp.map dG.Code).trans ?_;rw[List.map_append,List.map_append];exact h.perm.append_right _;rcases yD.1 hv with hv |hv;obtain⟨x,hx,e1,e2⟩:=h.nam v hv;refine⟨x,?_,e1,e2⟩;rw[<-List.take_append_drop z l]at hx;rcases yD.1 hx with hx |hx;exact List.mem_append_left _ (List.mem_append_left _ hx);exact List.mem_append_right _ hx;simp at hv;subst hv;exact⟨⟨s,bt v⟩,by simp,rfl,hs⟩;have h1:=h.srt;rw[<-List.take_append_drop z l,List.pairwise_append]at h1;rw[List.pairwise_append,List.pairwise_append];refine⟨⟨h1.1,by simp,fun a ha b hb=>by simp at hb;subst hb;exact jk a ha⟩,h1.2.1,fun a ha b hb=>?_⟩;rcases yD.1 ha with ha |ha;exact h1.2.2 a ha b hb;simp at ha;subst ha;exact R2 b hb
 intro m;induction m with
 |zero=>intro z hm;omega|succ m ih=>
  intro z hm hz R2;unfold Ds;by_cases h0:z=0;subst h0;simp only[zV,Int.lt_irrefl,yB,zD,aO,show((0:Int)>0)=False by simp];have:=fin 0 (by omega) R2 (by simp)
  rwa [zV]at this
  have e0:decide ((z:Int)>0)=true:=by simp;omega
  have e1:IntKind.i64.wrap ((z:Int)-1)=((z-1:Nat):Int):=FJ (by omega) (by omega);obtain⟨y,hy,ET⟩:=fA (l:=l) (show z-1<l.length by omega);obtain⟨v,hv,ev⟩:=h.cod y ET;obtain⟨r,r1,r2,r3⟩:=qyl (x:=⟨s,bt w⟩) (y:=y) rfl ev hw (hws v hv) hn;simp only[e0,zC,e1,cO,hy,aO,r1];cases r with
  |true=>
   simp only[zC];refine ih (z-1) (by omega) (by omega) fun x hx=>?_;rw[aX hy,show z-1+1=z by omega]at hx;rcases zI.1 hx with rfl |hx
   exact r2 rfl;exact R2 x hx
  |false=>
   simp only[zD];refine fin z hz R2 fun x hx=>?_;have h1:=h.srt;rw[<-List.take_append_drop (z-1) l,List.pairwise_append]at h1;have:l.take z=l.take (z-1)++[y]:=by rw[<-j5 hy,show z-1+1=z by omega]
   rw[this]at hx;rcases yD.1 hx with hx |hx;exact Nat.le_trans (r3 rfl) (h1.2.2 x hx y (by rw[aX hy];simp));simp at hx;subst hx;exact r3 rfl
theorem UA(h:xA d):∃s0,kI d s0/\∀s,kI d s->nH d s s0:=by
 obtain⟨l,hl,aU⟩:=h.ord;have cH:∀s,kI d s->s∈l:=fun s ⟨x,hx,e⟩=>by
  apply Classical.byContradiction;intro hn;have h3:=Ki (a:=s::l) (b:=d.map bG.Name) (List.nodup_cons.2 ⟨hn,hl.nodup.1⟩) fun t ht=>by rcases zI.1 ht with rfl |ht;rw[<-e];exact List.mem_map_of_mem hx;obtain⟨y,hy,rfl⟩:=hl.nodup.2 t ht;exact List.mem_map_of_mem hy
  simp at h3;omega
 obtain⟨x0,sY⟩:∃x0,d.filter (fun x=>decide (x.Supers=[]))=[x0]:=List.length_eq_one_iff.1 h.one;have ap:x0∈d:=(List.mem_filter.1 (show x0∈d.filter (fun x=>decide (x.Supers=[])) by rw[sY];simp)).1;refine⟨x0.Name,⟨x0,ap,rfl⟩,fun s hs=>?_⟩;have key:∀{l:List Str},Ord d l->∀s∈l,nH d s x0.Name:=by
  intro l hl;induction hl with
  |nil=>intro s hs;cases hs| @snoc l x g1 g2 g3 g4 ih=>
   intro s hs;rcases yD.1 hs with hs |hs;exact ih s hs;simp at hs;subst hs;cases hsup:x.Supers with
   |nil=>have:x∈d.filter (fun x=>decide (x.Supers=[])):=List.mem_filter.2 ⟨g2,by simp[hsup]⟩;rw[sY]at this;simp at this;rw[this];exact .refl|cons u us=>
    have hu:u∈x.Supers:=by rw[hsup];simp
    exact nH.trans (.step .refl g2 rfl hu) (ih u (g4 u hu))
 exact key hl s (cH s hs)
structure F5(d:List bG)(l:List dG):Prop where
 ws:∃(nm:Nat->Option Str)(c0 ws:List Nat),FI c0 ws/\O3 ws/\CI nm ws l/\ws.length<=256/\0<ws.length
 dcl:∀s,kI d s->∃x∈l,x.Name=s
 top:∃w0,(∃x∈l,x.Code=bt w0)/\∀x∈l,w0&&&cw x.Code=cw x.Code
theorem F5.len{d:List bG}{l:List dG}(h:F5 d l):l.length<=256/\0<l.length:=by
 obtain⟨nm,c0,ws,h1,h2,h3,h4,h5⟩:=h.ws;have:=h3.len;omega
theorem F5.cod{d:List bG}{l:List dG}(h:F5 d l):∀x∈l,∃w,x.Code=bt w/\w<4096/\w≠0:=fun x hx=>by
 obtain⟨nm,c0,ws,h1,h2,h3,h4,h5⟩:=h.ws;obtain⟨w,hw,e⟩:=h3.cod x hx;exact⟨w,e,(h1.ok w hw).1,(h1.ok w hw).2.1⟩
theorem z38(hd:d.length<=12)(hn:5000<=n):∃l e,LS n d=some (l,e)/\(e=0->xA d/\F5 d l):=by
 obtain⟨e,c1,c2⟩:=qyx hd hn;simp only[LS,c1,aO];by_cases he:e=0;subst he;have h:=c2 rfl;obtain⟨all,n1,n2⟩:=names_ok (d:=d) (by omega) hn;have A6:all.length<=12:=by have:=n2.len;simp at this;omega
 have cH:∀s,s∈all↔kI d s:=fun s=>by rw[n2.mem];simp[kI,List.mem_map]
 simp only[bne_self_eq_false,zD,n1,aO];have:=iO (l:=all) (by omega) (F:=fun m z (s:List Nat)=>W2 d n all m z (s.map bt)) (fun i s=>s.length=i/\(∀w∈s,w<4096)/\∀(j w:Nat)(t:Str),s[j]? = some w->all[j]? = some t->∀i:Nat,w.testBit i=true↔∃u,all[i]? = some u/\nH d u t) (Q:=fun r=>r.2=0->xA d/\F5 d r.1)
  (fun m i x s hx aG bD hw hI ih=>by
   obtain⟨i1,i2,i3⟩:=hI;obtain⟨w,w1,w2,w3⟩:=z6p h A6 ((cH x).1 (zX hx)) (fun y hy=>(cH y).1 hy) hn;simp only[W2,bD,zC,cO,hx,aO,w1,hw,yA];rw[kQ (by omega)];have:=ih (s++[w]) ⟨by simp;omega,fun v hv=>by
    rcases yD.1 hv with hv |hv;exact i2 v hv;simp at hv;subst hv;exact w2,fun j v t hj ht=>by
    by_cases e:j<s.length;rw[List.getElem?_append_left e]at hj;exact i3 j v t hj ht;have:j=i:=by have:=(zG.1 hj).1;simp at this;omega
    subst this;rw[List.getElem?_append_right (by omega),i1,Nat.sub_self]at hj;simp at hj;subst hj;rw[hx]at ht;cases ht;exact w3⟩
   rw[List.map_append]at this;exact this)
  (fun m c0 bD hI=>by
   obtain⟨i1,i2,i3⟩:=hI;have B8:∀(j w:Nat),c0[j]? = some w->w.testBit j=true:=fun j w hj=>by obtain⟨t,ht,_⟩:=fA (l:=all) (show j<all.length by have:=(zG.1 hj).1;omega);exact(i3 j w t hj ht j).2 ⟨t,ht,.refl⟩
   have Rh:c0.Nodup:=by rw[List.Nodup,List.pairwise_iff_getElem];intro a b ha hb EX e;obtain⟨s,hs,Fh⟩:=fA (l:=all) (show a<all.length by omega);obtain⟨t,ht,htm⟩:=fA (l:=all) (show b<all.length by omega);have ga:=List.getElem?_eq_getElem ha;have gb:=List.getElem?_eq_getElem hb;have h1:=B8 a _ ga;have h2:=B8 b _ gb;rw[e]at h1;rw[<-e]at h2;obtain⟨u,hu,hu2⟩:=(i3 b _ t gb ht a).1 h1;obtain⟨v,hv,tx⟩:=(i3 a _ s ga hs b).1 h2;rw[hs]at hu;cases hu;rw[ht]at hv;cases hv;have:=z7u h ((cH s).1 Fh) ((cH t).1 htm) hu2 tx;subst this;obtain⟨p1,p2⟩:=zG.1 hs;obtain⟨q1,q2⟩:=zG.1 ht;have:=(List.getElem_inj n2.asc.nodup).1 (p2.trans q2.symm);omega
   have ad:∀a∈c0,a<4096/\a≠0:=fun a ha=>⟨i2 a ha,fun e=>by obtain⟨j,hj,e2⟩:=List.mem_iff_getElem.1 ha;have:=B8 j a (by rw[List.getElem?_eq_getElem hj,e2]);rw[e]at this;simp at this⟩;obtain⟨ws,f1,f2,f3⟩:=qz8 (c0:=c0) (by omega) Rh ad hn;simp only[W2,bD,zD,qb,f1,aO,yA];by_cases A9:(ws.length:Int)>256;simp only[A9,yC,zC];exact⟨_,rfl,fun h=>by cases h⟩;simp only[A9,yB,zD];have aU:ws.length<=256:=by omega
   have:=iO (l:=ws) (by omega) (F:=fun m z (s:List dG)=>M5 d n all (c0.map bt) (ws.map bt) m z s) (fun i s=>CI (fun w=>Kt n d all (c0.map bt) (bt w)) (ws.take i) s) (Q:=fun r=>r.2=0->xA d/\F5 d r.1)
    (fun m' i w s hx aG d6 yY iT kC=>by
     have QU:=zX hx;have okw:=f2.ok w QU;obtain⟨t,t1,t2⟩:=qw7 h A6 (c0:=c0) i1 i2 okw.1 hn;have Pq:(ws.map bt)[i]? = some (bt w):=by rw[List.getElem?_map,hx];rfl
     have vN:=iT.len;rw[List.length_take]at vN;simp only[M5,yA,d6,zC,cO,Pq,aO,t1];refine Ow (w:=w) (s:=t) iT (by omega) (fun v hv=>(f2.ok v (List.mem_of_mem_take hv)).1) okw.1 t1 hn (fun l' y3=>?_) n s.length (by omega) (by omega) (by simp);rw[yY];rw[<-j5 hx]at y3;exact kC l' y3)
    (fun m' s d6 iT=>by
     rw[zW (zF _)]at iT;simp only[M5,yA,d6,zD,Zz];have fC:0<ws.length:=by
      have D7:0<d.length:=by have:=h.one;rcases d with _|⟨x,d⟩;simp at this;simp
      obtain⟨x,hx,fQ⟩:=fA (l:=d) D7;have:=(cH x.Name).2 ⟨x,fQ,rfl⟩;have:=List.length_pos_of_mem this;obtain⟨t,ht⟩:=f2.pre;rw[ht,zU];omega
     have MU:∃w0,(∃x∈s,x.Code=bt w0)/\∀x∈s,w0&&&cw x.Code=cw x.Code:=by
      obtain⟨s0,q1,q2⟩:=UA h;obtain⟨j,hj,e⟩:=List.mem_iff_getElem.1 ((cH s0).2 q1);have HB:j<c0.length:=by omega
      obtain⟨p,hp⟩:=f2.pre;have QU:c0[j]∈ws:=by rw[hp];exact List.mem_append_left _ (List.getElem_mem HB)
      obtain⟨x,hx,hxc,_⟩:=iT.nam _ QU;have full:∀i,i<all.length->(c0[j]).testBit i=true:=fun i hi=>by obtain⟨u,hu,xy⟩:=fA hi;exact(i3 j _ s0 (List.getElem?_eq_getElem HB) (by rw[List.getElem?_eq_getElem hj,e]) i).2 ⟨u,hu,q2 u ((cH u).1 xy)⟩
      refine⟨c0[j],⟨x,hx,hxc⟩,fun y hy=>?_⟩;obtain⟨w,hw,ew⟩:=iT.cod y hy;rw[ew,G0];obtain⟨_,_,b,hb,EX⟩:=f2.ok w hw;refine Nat.eq_of_testBit_eq fun i=>?_;rw[Nat.testBit_and];rcases xv:w.testBit i with _|_
      simp;have wV:b.testBit i=true:=by have:=congrArg (fun z=>z.testBit i) EX;simp only[Nat.testBit_and,xv,Bool.true_and]at this;exact this
      obtain⟨k,hk,e2⟩:=List.mem_iff_getElem.1 hb;obtain⟨t,ht,_⟩:=fA (l:=all) (show k<all.length by omega);obtain⟨u,hu,_⟩:=(i3 k b t (by rw[List.getElem?_eq_getElem hk,e2]) ht i).1 wV;rw[full i (zG.1 hu).1];rfl
     refine⟨_,rfl,fun _=>⟨h,⟨_,c0,ws,f2,f3 aU,iT,aU,fC⟩,fun t ht=>?_,MU⟩⟩;obtain⟨j,hj,e⟩:=List.mem_iff_getElem.1 ((cH t).2 ht);have HB:j<c0.length:=by omega
     obtain⟨p,hp⟩:=f2.pre;have QU:c0[j]∈ws:=by rw[hp];exact List.mem_append_left _ (List.getElem_mem HB)
     obtain⟨x,hx,_,e2⟩:=iT.nam _ QU;refine⟨x,hx,?_⟩;obtain⟨s2,t1,t2⟩:=qw7 h A6 (c0:=c0) i1 i2 (f2.ok _ QU).1 hn;rw[t1]at e2;rw[<-Option.some.inj e2];exact t2 j t Rh (List.getElem?_eq_getElem HB) (by rw[List.getElem?_eq_getElem hj,e])) n 0 [] (by omega) (by omega) ⟨by simp,by simp,List.Pairwise.nil⟩
   rw[zV]at this;exact this) n 0 [] (by omega) (by omega) ⟨rfl,by simp,fun j w t hj=>by simp at hj⟩
 rw[zV]at this;obtain⟨r,h1,h2⟩:=this;exact⟨r.1,r.2,h1,h2⟩;have:(e != 0)=true:=by simpa using he
 simp only[this,zC];exact⟨[],e,rfl,fun h=>absurd h he⟩
variable{n:Nat}
theorem qx5{x:bG}(hx:x.Feats.length<=256)(s:Str)(hn:5000<=n):∃r,Lf n x s=some r/\(r.2=true->∃f∈x.Feats,f.Feat=s/\f.Value=r.1):=by
 have:=iO (l:=x.Feats) (by omega) (F:=fun m z (_:Unit)=>VX x s m z) (fun _ _=>True) (Q:=fun r=>r.2=true->∃f∈x.Feats,f.Feat=s/\f.Value=r.1)
  (fun m i f _ hf aG bD hw _ ih=>by simp only[VX,bD,zC,cO,hf,aO,IB,hw];by_cases e:f.Feat=s;simp only[e,yC,zC];exact⟨_,rfl,fun _=>⟨f,zX hf,e,rfl⟩⟩;simp only[e,yB,zD];exact ih () trivial)
  (fun m _ bD _=>by simp only[VX,bD,zD,Zs];exact⟨_,rfl,fun h=>by cases h⟩) n 0 () (by omega) (by omega) trivial
 rw[zV]at this;exact this
variable{l:List dG}
theorem pb(hl:l.length<=256)(s:Str)(hn:5000<=n):∃r,De n l s=some r/\((∃x∈l,x.Name=s)->∃j:Nat,r=(j:Int)/\j<l.length):=by
 have:=iO (l:=l) (by omega) (F:=fun m z (_:Unit)=>WA l s m z) (fun i _=>∀x∈l.take i,x.Name≠s) (Q:=fun r=>(∃x∈l,x.Name=s)->∃j:Nat,r=(j:Int)/\j<l.length)
  (fun m i x _ hx aG bD hw hI ih=>by
   simp only[WA,bD,zC,cO,hx,aO,IB,hw];by_cases e:x.Name=s;simp only[e,yC,zC];exact⟨_,rfl,fun _=>⟨i,rfl,aG⟩⟩;simp only[e,yB,zD];refine ih () fun y hy=>?_;rw[j5 hx]at hy;rcases yD.1 hy with hy |hy
   exact hI y hy;simp at hy;subst hy;exact e)
  (fun m _ bD hI=>by rw[zW (zF _)]at hI;simp only[WA,bD,zD,qy];exact⟨_,rfl,fun⟨x,hx,e⟩=>absurd e (hI x hx)⟩) n 0 () (by omega) (by omega) (by simp)
 rw[zV]at this;exact this
variable{d:List bG}
theorem z3g(hd:d.length<=12)(hf:∀x∈d,x.Feats.length<=256)(hn:5000<=n):∃f,VM n d=some f/\eV f/\f.length<=3072/\∀s∈f,∃x∈d,∃y∈x.Feats,y.Feat=s:=by
 have:=iO (l:=d) (by omega) (F:=fun m z s=>JO d n m s z) (fun i s=>eV s/\s.length<=256*i/\∀t∈s,∃x∈d,∃y∈x.Feats,y.Feat=t) (Q:=fun f=>eV f/\f.length<=3072/\∀s∈f,∃x∈d,∃y∈x.Feats,y.Feat=s)
  (fun m i x s hx aG bD hw hI ih=>by
   obtain⟨i1,i2,i3⟩:=hI;have fQ:=zX hx;have hxf:=hf x fQ;simp only[JO,bD,zC];have:=iO (l:=x.Feats) (by omega) (F:=fun m' z s'=>VY d n i (JO d n m) m' s' z) (fun k s'=>eV s'/\s'.length<=s.length+k/\∀t∈s',∃x∈d,∃y∈x.Feats,y.Feat=t) (Q:=fun f=>eV f/\f.length<=3072/\∀s∈f,∃x∈d,∃y∈x.Feats,y.Feat=s)
    (fun m' k y s' hy qU d6 yY iT kC=>by obtain⟨j1,j2,j3⟩:=iT;obtain⟨o,h1,h2,h3,h4⟩:=Bn (l:=s') (by omega) j1 y.Feat (show s'.length<n by omega);simp only[VY,cO,hx,aO,d6,zC,hy,h1,yY];refine kC o ⟨h4,by omega,fun t ht=>?_⟩;rcases(h2 t).1 ht with rfl |ht;exact⟨x,fQ,y,zX hy,rfl⟩;exact j3 t ht)
    (fun m' s' d6 iT=>by obtain⟨j1,j2,j3⟩:=iT;simp only[VY,cO,hx,aO,d6,zD,Zu,hw];exact ih s' ⟨j1,by omega,j3⟩) n 0 s (by omega) (by omega) ⟨i1,by omega,i3⟩
   rw[zV]at this;exact this)
  (fun m s bD hI=>by simp only[JO,bD,zD,Zv];exact⟨s,rfl,hI.1,by have:=hI.2.1;omega,hI.2.2⟩) n 0 [] (by omega) (by omega) ⟨List.Pairwise.nil,by simp,by simp⟩
 rw[zV]at this;exact this
theorem qxm(s:Str)(hn:40<=n):∃r,VV n s=some r:=by
 obtain⟨r,h1,_⟩:=qw8 s true hn;exact⟨r,by simp[VV,h1,aO]⟩
def DP(d:List bG)(n:Nat)(x:bG):Prop:=∀f∈x.Feats,VV n f.Feat=some true/\kI d f.Value
theorem qms(h:xA d)(hn:5000<=n):∃e,Nj n d=some e/\(e=0->∀x∈d,DP d n x):=by
 have hd:=h.len;obtain⟨all,n1,n2⟩:=names_ok (d:=d) (by omega) hn;have A6:all.length<=12:=by have:=n2.len;simp at this;omega
 have cH:∀s,s∈all↔kI d s:=fun s=>by rw[n2.mem];simp[kI,List.mem_map]
 have:=iO (l:=d) (by omega) (F:=fun m z (_:Unit)=>CR d n all m z) (fun i _=>∀x∈d.take i,DP d n x) (Q:=fun e=>e=0->∀x∈d,DP d n x)
  (fun m i x _ hx aG bD hw hI ih=>by
   have hxf:=(h.siz x (zX hx)).2;simp only[CR,bD,zC,cO,hx,aO];have:=iO (l:=x.Feats) (by omega) (F:=fun m' z (_:Unit)=>JW n all i (CR d n all m) x m' z) (fun k _=>∀f∈x.Feats.take k,VV n f.Feat=some true/\kI d f.Value) (Q:=fun e=>e=0->∀x∈d,DP d n x)
    (fun m' k f _ hf qU d6 yY iT kC=>by
     obtain⟨r,r1⟩:=qxm f.Feat (n:=n) (by omega);simp only[JW,d6,zC,cO,hf,aO,r1];rcases r with _|_;exact⟨1,rfl,fun h=>by cases h⟩;simp only[Bool.not_true,zD];have hk:((k:Int)<=(x.Feats.length:Int)):=by omega
     have key:∀(m3 j:Nat),k-j<m3->j<=k->∃e,Ei n all x k (JW n all i (CR d n all m) x m') m3 j=some e/\(e=0->∀x∈d,DP d n x):=by
      intro m3;induction m3 with
      |zero=>intro j hm;omega|succ m3 xp=>
       intro j hm hj;unfold Ei;by_cases D8:j<k;obtain⟨g,hg,_⟩:=fA (l:=x.Feats) (show j<x.Feats.length by omega);have e0:decide ((j:Int)<(k:Int))=true:=by simp;omega
       have e1:IntKind.i64.wrap ((j:Int)+1)=((j+1:Nat):Int):=FJ (by omega) (by omega);simp only[e0,zC,cO,hg,hf,aO,e1];rcases kO g.Feat f.Feat with _|_;exact xp (j+1) (by omega) (by omega);exact⟨4,rfl,fun h=>by cases h⟩;have e0:decide ((j:Int)<(k:Int))=false:=by simp;omega
       simp only[e0,zD,wo,cO,hf,aO,LM (l:=all) (by omega) f.Value (n:=n) (by omega),yY];by_cases xZ:f.Value∈all;simp only[xZ,yC,Bool.not_true,zD];refine kC () fun y hy=>?_;rw[j5 hf]at hy;rcases yD.1 hy with hy |hy
       exact iT y hy;simp at hy;subst hy;exact⟨r1,(cH _).1 xZ⟩;simp only[xZ,yB,Bool.not_false,zC];exact⟨5,rfl,fun h=>by cases h⟩
     have:=key n 0 (by omega) (by omega);rw[zV]at this;exact this)
    (fun m' _ d6 iT=>by
     rw[zW (zF _)]at iT;simp only[JW,d6,zD,wq,hw];refine ih () fun y hy=>?_;rw[j5 hx]at hy;rcases yD.1 hy with hy |hy
     exact hI y hy;simp at hy;subst hy;exact iT) n 0 () (by omega) (by omega) (by simp)
   rw[zV]at this;exact this)
  (fun m _ bD hI=>by rw[zW (zF _)]at hI;simp only[CR,bD,zD,wt];exact⟨0,rfl,fun _=>hI⟩) n 0 () (by omega) (by omega) (by simp)
 rw[zV]at this;simp only[Nj,n1,aO];exact this
theorem qvs(h:xA d)(s:Str)(hn:5000<=n):∃r,Lg n d s=some r:=by
 have hd:=h.len;have:=iO (l:=d) (by omega) (F:=fun m z t=>M4 d s n m t z) (fun i t=>eV t/\t.length<=i) (Q:=fun _=>True)
  (fun m i x t hx aG bD hw hI ih=>by
   obtain⟨i1,i2⟩:=hI;obtain⟨r,r1,_⟩:=qx5 (h.siz x (zX hx)).2 s hn;simp only[M4,bD,zC,cO,hx,aO,r1,Mk,hw];cases r.2 with
   |true=>obtain⟨o,h1,h2,h3,h4⟩:=Bn (l:=t) (by omega) i1 x.Name (show t.length<n by omega);simp only[zC,h1,aO];exact ih o ⟨h4,by omega⟩
   |false=>exact ih t ⟨i1,by omega⟩)
  (fun m t bD hI=>by
   obtain⟨out,m1,m2,m3⟩:=qp5 h (l:=t) (by have:=hI.2;omega) hn;simp only[M4,bD,zD,Zt,m1,aO];by_cases e:(out.length:Int)=1;obtain⟨x,hx,_⟩:=fA (l:=out) (show 0<out.length by omega);have h0:aB out 0=some x:=by rw[<-hx];exact cO 0
   simp only[e,bne_self_eq_false,zD,h0,aO];exact⟨_,rfl,trivial⟩;have:((out.length:Int) != 1)=true:=by simpa using e
   simp only[this,zC];exact⟨_,rfl,trivial⟩) n 0 [] (by omega) (by omega) ⟨List.Pairwise.nil,by simp⟩
 rw[zV]at this;obtain⟨r,h1,_⟩:=this;exact⟨r,h1⟩
theorem Yh(h:F5 d l){i j:Nat}(hi:i<l.length)(hj:j<l.length)(hn:5000<=n):∃b,PX n l i j=some b:=by
 obtain⟨x,hx,fQ⟩:=fA hi;obtain⟨y,hy,ET⟩:=fA hj;obtain⟨a,a1,a2,_⟩:=h.cod x fQ;obtain⟨b,b1,b2,_⟩:=h.cod y ET;simp only[PX,cO,hx,hy,aO,a1,b1,su b2 a2 (show 5<=n by omega)];exact⟨_,rfl⟩
theorem qlf(h:xA d)(hl:F5 d l)(hv:∀x∈d,∀f∈x.Feats,kI d f.Value){t:Nat}(ht:t<l.length)(s:Str)(hn:5000<=n):∃w b,Dx n d l t s=some (bt w,b)/\w<4096:=by
 have hd:=h.len;have A3:=hl.len;obtain⟨x0,sY,tk⟩:=fA (l:=l) A3.2;obtain⟨w0,a1,a2,_⟩:=hl.cod x0 tk;have:=iO (l:=d) (by omega) (F:=fun m z (s':Bool×Nat)=>Q3 d l t s n m s'.1 (bt s'.2) z) (fun _ s'=>s'.2<4096) (Q:=fun r=>∃w b,r=(bt w,b)/\w<4096)
  (fun m i x s' hx aG bD hw hI ih=>by have fQ:=zX hx;obtain⟨r,r1,r2⟩:=qx5 (h.siz x fQ).2 s hn;simp only[Q3,bD,zC,cO,hx,aO,r1,hw];rcases hr:r.2 with _|_;simp only[Bool.not_false,zC,aO];exact ih s' hI;obtain⟨p,p1,p2⟩:=pb (l:=l) (by omega) x.Name hn;obtain⟨j,rfl,hj⟩:=p2 (hl.dcl _ ⟨x,fQ,rfl⟩);obtain⟨b,b1⟩:=Yh hl hj ht hn;simp only[Bool.not_true,zD,p1,aO,b1];rcases b with _|_;simp only[Bool.not_false,zC];exact ih s' hI;obtain⟨f,hf,_,e2⟩:=r2 hr;obtain⟨q,q1,q2⟩:=pb (l:=l) (by omega) r.1 hn;obtain⟨k,rfl,hk⟩:=q2 (hl.dcl _ (e2 ▸ hv x fQ f hf));obtain⟨y,hy,ET⟩:=fA hk;obtain⟨v,v1,v2,_⟩:=hl.cod y ET;simp only[Bool.not_true,zD,q1,aO,cO,hy,v1,K_ hI v2 (show 5<=n by omega)];exact ih (true,s'.2&&&v) (Nat.lt_of_le_of_lt Nat.and_le_left hI))
  (fun m s' bD hI=>by simp only[Q3,bD,zD,wa];exact⟨_,rfl,s'.2,s'.1,rfl,hI⟩) n 0 (false,w0) (by omega) (by omega) a2
 rw[zV]at this;obtain⟨r,h1,w,b,rfl,h2⟩:=this;have h0:aB l 0=some x0:=by rw[<-sY];exact cO 0
 exact⟨w,b,by simp only[Dx,h0,aO,a1];exact h1,h2⟩
structure IT(d:List bG)(n:Nat)(l:List dG)(f:List Str):Prop where
 dok:xA d
 cod:LS n d=some (l,0)
 cok:F5 d l
 fea:VM n d=some f
 asc:eV f
 len:f.length<=64
 val:∀x∈d,DP d n x
 mem:∀s∈f,∃x∈d,∃y∈x.Feats,y.Feat=s
theorem qrq(hd:d.length<=12)(hn:5000<=n):∃e,PU n d=some e/\(e=0->∃l f,IT d n l f):=by
 obtain⟨l,e,c1,c2⟩:=z38 hd hn;simp only[PU,c1,aO];by_cases he:e=0;subst he;obtain⟨h,hl⟩:=c2 rfl;have A3:=hl.len;obtain⟨f,f1,f2,f3,f4⟩:=z3g hd (fun x hx=>(h.siz x hx).2) hn;simp only[bne_self_eq_false,zD,f1,aO];by_cases pQ:(f.length:Int)>64;simp only[pQ,yC,zC];exact⟨7,rfl,fun h=>by cases h⟩;obtain⟨e2,d1,d2⟩:=qms h hn;simp only[pQ,yB,zD,d1,aO];by_cases du:e2=0;subst du;have hv:=d2 rfl;have EW:IT d n l f:=⟨h,c1,hl,f1,f2,by omega,hv,f4⟩;simp only[bne_self_eq_false,zD];have:=iO (l:=f) (by omega) (F:=fun m z (_:Unit)=>W0 d n (l,0) f m z) (fun _ _=>True) (Q:=fun e=>e=0->∃l f,IT d n l f)
  (fun m i s _ hs aG bD hw _ ih=>by obtain⟨r,r1⟩:=qvs h s hn;simp only[W0,bD,zC,cO,hs,aO,r1,hw];rcases r.2 with _|_;exact⟨10,rfl,fun h=>by cases h⟩;exact ih () trivial)
  (fun m _ bD _=>by
   simp only[W0,bD,zD,Zy];have:=iO (l:=l) (by omega) (F:=fun m z (_:Unit)=>JP d n (l,0) f m z) (fun _ _=>True) (Q:=fun e=>e=0->∃l f,IT d n l f)
    (fun m t _ _ _ qU d6 yY _ kC=>by
     simp only[JP,d6,zC];have:=iO (l:=f) (by omega) (F:=fun m' z (_:Unit)=>VZ d n (l,0) f t (JP d n (l,0) f m) m' z) (fun _ _=>True) (Q:=fun e=>e=0->∃l f,IT d n l f)
      (fun m' i s _ hs hlt3 Fp hw3 _ xp=>by
       obtain⟨w,b,i1,_⟩:=qlf h hl (fun x hx y hy=>(hv x hx y hy).2) qU s hn;simp only[VZ,Fp,zC,cO,hs,aO,i1,hw3];rcases b with _|_;exact xp () trivial;simp only[zC,aO];cases (((bt w).length:Int)==0)with
       |true=>exact⟨11,rfl,fun h=>by cases h⟩|false=>exact xp () trivial)
      (fun m' _ Fp _=>by simp only[VZ,Fp,zD,Zw,yY];exact kC () trivial) n 0 () (by omega) (by omega) trivial
     rw[zV]at this;exact this)
    (fun m _ d6 _=>by simp only[JP,d6,zD,Zx];exact⟨0,rfl,fun _=>⟨l,f,EW⟩⟩) n 0 () (by omega) (by omega) trivial
   rw[zV]at this;exact this) n 0 () (by omega) (by omega) trivial
 rw[zV]at this;exact this;have:(e2 != 0)=true:=by simpa using du
 simp only[this,zC];exact⟨e2,rfl,fun h=>absurd h du⟩;have:(e != 0)=true:=by simpa using he
 simp only[this,zC];exact⟨e,rfl,fun h=>absurd h he⟩
theorem z3i(hl:F5 d l){w:Nat}(hn:5000<=n):∃r,Kv n l (bt w)=some r:=by
 have A3:=hl.len;have:=iO (l:=l) (by omega) (F:=fun m z (_:Unit)=>VT l n (bt w) m z) (fun _ _=>True) (Q:=fun _=>True)
  (fun m i x _ hx aG bD hw _ ih=>by
   obtain⟨a,a1,_⟩:=hl.cod x (zX hx);simp only[VT,bD,zC,cO,hx,aO,a1,qwu (a:=a) (b:=w) (n:=n) (by omega),hw];cases decide (a=w)with
   |true=>exact⟨_,rfl,trivial⟩|false=>exact ih () trivial)
  (fun m _ bD _=>by simp only[VT,bD,zD,Zj];exact⟨_,rfl,trivial⟩) n 0 () (by omega) (by omega) trivial
 rw[zV]at this;obtain⟨r,h1,_⟩:=this;exact⟨r,by simp only[Kv,z7b (w:=w) (n:=n) (by omega),aO];exact h1⟩
theorem z2d(hd:d.length<=12)(hn:5000<=n):∃v e,Df n d=some (v,e)/\(e=0->∃l f,IT d n l f/\v.length=l.length):=by
 obtain⟨e,c1,c2⟩:=qrq hd hn;simp only[Df,c1,aO];by_cases he:e=0;subst he;obtain⟨l,f,h⟩:=c2 rfl;have A3:=h.cok.len;have DA:=h.len;simp only[bne_self_eq_false,zD,h.cod,h.fea,aO];have:=iO (l:=l) (by omega) (F:=fun m z s=>G9 d n (l,0) f m z s) (fun i s=>s.length=i) (Q:=fun r=>r.2=0->∃l f,IT d n l f/\r.1.length=l.length)
  (fun m t _ s _ aG bD hw hI ih=>by
   simp only[G9,bD,zC];have:=iO (l:=f) (by omega) (F:=fun m' z s'=>MA d n (l,0) f t s (G9 d n (l,0) f m) m' z s') (fun i s'=>s'.length<=i) (Q:=fun r=>r.2=0->∃l f,IT d n l f/\r.1.length=l.length)
    (fun m' i x s' hx qU d6 yY iT kC=>by
     obtain⟨w,b,i1,_⟩:=qlf h.dok h.cok (fun x hx y hy=>(h.val x hx y hy).2) aG x hn;simp only[MA,d6,zC,cO,hx,aO,i1,Mt,yY];cases b with
     |true=>obtain⟨r,r1⟩:=z3i h.cok (w:=w) hn;simp only[zC,r1,aO];rw[kQ (by omega)];exact kC _ (by simp;omega)
     |false=>exact kC s' (by omega))
    (fun m' s' d6 iT=>by simp only[MA,d6,zD,qz,hw];rw[kQ (by omega)];exact ih _ (by simp;omega)) n 0 [] (by omega) (by omega) (by simp)
   rw[zV]at this;exact this)
  (fun m s bD hI=>by simp only[G9,bD,zD,zd];exact⟨_,rfl,fun _=>⟨l,f,h,hI⟩⟩) n 0 [] (by omega) (by omega) (by simp)
 rw[zV]at this;obtain⟨r,h1,h2⟩:=this;exact⟨r.1,r.2,h1,h2⟩;have:(e != 0)=true:=by simpa using he
 simp only[this,zC];exact⟨[],e,rfl,fun h=>absurd h he⟩
theorem qy5(h:F5 d l){t:Nat}(ht:t<l.length)(hn:5000<=n):∃r,Yt n l t=some r:=by
 have A3:=h.len;have:=iO (l:=l) (by omega) (F:=fun m z s=>CQ l t n m z s) (fun i s=>s.length<=i) (Q:=fun _=>True)
  (fun m k _ s _ aG bD hw hI ih=>by
   obtain⟨b,b1⟩:=Yh h aG ht hn;simp only[CQ,bD,zC,b1,aO,hw];have go:∃r,Q1 l t n k s (CQ l t n m) n true 0=some r/\True:=by
    have:=iO (l:=l) (by omega) (F:=fun m' z b=>Q1 l t n k s (CQ l t n m) m' b z) (fun _ _=>True) (Q:=fun _=>True)
     (fun m' i _ b _ qU d6 yY _ kC=>by
      obtain⟨b1,g1⟩:=Yh h aG qU hn;obtain⟨b2,g2⟩:=Yh h qU ht hn;simp only[Q1,d6,zC,yY,g1,g2,aO];rcases b with _|_;exact kC false trivial;cases ((i:Int)==(t:Int))with
      |true=>exact kC true trivial|false=>cases ((i:Int)==(k:Int))with|true=>exact kC true trivial|false=>rcases b1 with _|_;exact kC true trivial;exact kC _ trivial)
     (fun m' b d6 _=>by
      simp only[Q1,d6,zD,ze,Mx,hw];cases b with
      |true=>simp only[zC];rw[kQ (by omega)];exact ih _ (by simp;omega)|false=>exact ih s (by omega)) n 0 true (by omega) (by omega) trivial
    rw[zV]at this;exact this
   cases ((k:Int)==(t:Int))with|true=>simp only[zC,aO];exact ih s (by omega)|false=>simp only[zD,aO];rcases b with _|_;simp only[Bool.not_false,zC];exact ih s (by omega);simp only[Bool.not_true,zD];exact go)
  (fun m s bD hI=>by simp only[CQ,bD,zD,zf];exact⟨_,rfl,trivial⟩) n 0 [] (by omega) (by omega) (by simp)
 rw[zV]at this;obtain⟨r,h1,_⟩:=this;exact⟨r,h1⟩
theorem qu3(hn:5000<=n){f:List Str}(h:IT d n l f)(hc:PU n d=some 0):∃r,Ml n d=some (r,0)/\r.map dK.Name=f:=by
 have A3:=h.cok.len;have DA:=h.len;have:=iO (l:=f) (by omega) (F:=fun m z s=>WE d n (l,0) f m z s) (fun i s=>s.map dK.Name=f.take i) (Q:=fun r=>r.2=0/\r.1.map dK.Name=f)
  (fun m i x s hx aG bD hw hI ih=>by
   obtain⟨r,r1⟩:=qvs h.dok x hn;obtain⟨q,q1,_⟩:=pb (l:=l) (by omega) r.1 hn;have vN:s.length=i:=by have:=congrArg List.length hI;simp at this;omega
   simp only[WE,bD,zC,cO,hx,aO,r1,q1,hw];rw[kQ (by omega)];exact ih _ (by rw[List.map_append,hI,j5 hx];rfl))
  (fun m s bD hI=>by rw[zW (zF _)]at hI;simp only[WE,bD,zD,zt];exact⟨_,rfl,rfl,hI⟩) n 0 [] (by omega) (by omega) (by simp)
 rw[zV]at this;obtain⟨r,h1,h2,h3⟩:=this;refine⟨r.1,?_,h3⟩;simp only[Ml,hc,aO,bne_self_eq_false,zD,h.cod,h.fea,h1];rw[<-h2]
structure kr(d:List bG)(n:Nat)(h:dW):Prop where
 ex:∃l f,IT d n l f/\h.Types.map cV.Code=l.map dG.Code/\h.Feats.map dK.Name=f
theorem qxi(hd:d.length<=12)(hn:5000<=n):∃h e,LY n d=some (h,e)/\(e=0->kr d n h)/\(e≠0->h=⟨[],[]⟩):=by
 obtain⟨v,e,v1,v2⟩:=z2d hd hn;simp only[LY,v1,aO];by_cases he:e=0;subst he;obtain⟨l,f,h,hv⟩:=v2 rfl;have A3:=h.cok.len;have hc:PU n d=some 0:=by
  obtain⟨e,c1,c2⟩:=qrq hd hn;by_cases h0:e=0;rw[c1,h0];have:(e != 0)=true:=by simpa using h0
  simp only[Df,c1,aO,this,zC,zA,zB]at v1;exact absurd v1.2 h0
 obtain⟨fs,g1,g2⟩:=qu3 hn h hc;simp only[bne_self_eq_false,zD,h.cod,aO];have:=iO (l:=l) (by omega) (F:=fun m z s=>WC d n (v,0) (l,0) m z s) (fun i s=>s.map cV.Code=(l.take i).map dG.Code) (Q:=fun r=>r.2=0/\kr d n r.1)
  (fun m i x s hx aG bD hw hI ih=>by
   obtain⟨r,r1⟩:=qy5 h.cok aG hn;obtain⟨y,hy,_⟩:=fA (l:=v) (show i<v.length by omega);have vN:s.length=i:=by have:=congrArg List.length hI;simp at this;omega
   simp only[WC,bD,zC,cO,hx,hy,aO,r1,hw];rw[kQ (by omega)];exact ih _ (by rw[List.map_append,hI,j5 hx,List.map_append];rfl))
  (fun m s bD hI=>by rw[zW (zF _)]at hI;simp only[WC,bD,zD,zm,g1,aO];exact⟨_,rfl,rfl,⟨l,f,h,hI,g2⟩⟩) n 0 [] (by omega) (by omega) (by simp)
 rw[zV]at this;obtain⟨r,h1,h2,h3⟩:=this;exact⟨r.1,r.2,h1,fun _=>h3,fun h=>absurd h2 h⟩;have:(e != 0)=true:=by simpa using he
 simp only[this,zC];exact⟨_,e,rfl,fun h=>absurd h he,fun _=>rfl⟩
end Go.Proofs
namespace Go.Proofs
open Go Go.Rx Go.Vx
set_option maxRecDepth 10000
structure pJ(h:dW)(ws:List Nat):Prop where
 cod:h.Types.map cV.Code=ws.map bt
 ok:∀w∈ws,w≠0/\w<4611686018427387904
 nod:ws.Nodup
 cls:O3 ws
 len:ws.length<=1000
 pos:0<ws.length
 fl:h.Feats.length<=1000
 top:∀w∈ws,(ws[0]?).getD 0&&&w=w
variable{h:dW}
variable{ws:List Nat}
theorem pJ.tl(hh:pJ h ws):h.Types.length=ws.length:=by have:=congrArg List.length hh.cod;simpa using this
theorem pJ.at{h:dW}{ws:List Nat}(hh:pJ h ws){i:Nat}{w:Nat}(hi:ws[i]? = some w):∃t,h.Types[i]? = some t/\t.Code=bt w:=by
 have h1:(h.Types.map cV.Code)[i]? = some (bt w):=by rw[hh.cod,List.getElem?_map,hi];rfl
 rw[List.getElem?_map]at h1;rcases e:h.Types[i]? with _|t;rw[e]at h1;cases h1;rw[e]at h1;exact⟨t,rfl,Option.some.inj h1⟩
variable{n:Nat}
theorem z2x(w:Nat)(hn:5<=n):Yq n [(w:Int)]=some (bt w):=by
 obtain⟨k,rfl⟩:=Nat.exists_eq_add_of_le' hn;have e0:IntKind.i64.wrap ((1:Int)-1)=0:=wr (z:=0) (by omega) (by omega);have e1:aB [(w:Int)] 0=some (w:Int):=rfl;have c0:pI [(w:Int)] 0 0=some []:=rfl;have c1:pI [(w:Int)] 0 1=some [(w:Int)]:=rfl;have e2:decide ((1:Int)>0)=true:=rfl;have e3:decide ((0:Int)>0)=false:=rfl;show W8 [(w:Int)] (k+5) 1=_;rw[W8,e2,zC,e0,e1,aO,aO];by_cases hw:w=0;have:((w:Int)==0)=true:=by simp[hw]
 rw[this,zC,W8,e3,zD,aO,zD,Ms,c0,hw];rfl;have:((w:Int)==0)=false:=by simp[hw]
 rw[this,zD,Ms,c1,rY hw];rfl
variable{a:Nat}
variable{b:Nat}
theorem z6f(ha:a≠0/\a<4611686018427387904)(hb:b≠0/\b<4611686018427387904)(hn:5<=n):Kf n (bt a) (bt b)=some (bt (a&&&b)):=by
 obtain⟨k,rfl⟩:=Nat.exists_eq_add_of_le' hn;have h1:=Ao (a:=a) (b:=b) (by omega) (by omega);have h2:=z2x (a&&&b) (n:=k+5) (by omega);rw[rY ha.1,rY hb.1];have e:Kf (k+5) [(a:Int)] [(b:Int)]=Lo [(a:Int)] [(b:Int)] (k+5) [FT .u64 (a:Int) (b:Int)]:=rfl;rw[e,h1,Lo,h2];rfl
theorem W?(ha:a≠0/\a<4611686018427387904)(hb:b≠0/\b<4611686018427387904)(hn:5<=n):Dd n (bt a) (bt b)=some (decide (a&&&b=a)):=by
 obtain⟨k,rfl⟩:=Nat.exists_eq_add_of_le' hn;obtain⟨c,h1,h2⟩:=Om (a:=a) (b:=b) (by omega) (by omega);rw[rY ha.1,rY hb.1];have e:Dd (k+5) [(a:Int)] [(b:Int)]=cond ((PI .u64 (a:Int) (b:Int)) != 0) (some false) (some true):=rfl;rw[e,h1];by_cases hc:c=0;have:=h2.1 hc;simp[hc,this];have:¬ a&&&b=a:=fun q=>hc (h2.2 q);have h3:((c:Int) != 0)=true:=by simpa using hc
 simp[this,h3]
theorem Ae(ha:a≠0/\a<4611686018427387904)(hb:b≠0/\b<4611686018427387904)(hn:5<=n):Kz n (bt a) (bt b)=some (decide (a=b)):=by
 rw[Kz,W? ha hb hn,W? hb ha hn];by_cases h:a&&&b=a;by_cases h':b&&&a=b;have:a=b:=by rw[<-h,Nat.and_comm,h']
 simp[h,h',this,aO];have:a≠b:=fun e=>h' (by rw[<-e,Nat.and_self]);simp[h,h',this,aO];have:a≠b:=fun e=>h (by rw[<-e,Nat.and_self]);simp[h,this,aO]
theorem t_{h:dW}{ws:List Nat}(hh:pJ h ws){c:Nat}(hc:c∈ws){n:Nat}(hn:5<=n):∀(m i:Nat),ws.length-i<m->i<=ws.length->(∀(k:Nat),k<i->ws[k]? ≠some c)->∃k:Nat,Er h.Types (bt c) (Dc n) m (i:Int)=some (k:Int)/\ws[k]? = some c
 |0,i,hm,_,_=>by omega
 |m+1,i,hm,hi,hJ=>by
  have hl:=hh.tl;have hln:=hh.len;obtain⟨q,hq⟩:=List.mem_iff_getElem?.1 hc;have MW:=(zG.1 hq).1;have aG:i<ws.length:=by rcases Nat.lt_or_ge q i with h1 |h1;exact absurd hq (hJ q h1);omega
  obtain⟨w,hw,QU⟩:=fA aG;obtain⟨t,ht,he⟩:=hh.at hw;have h1:=Ae (hh.ok w QU) (hh.ok c hc) hn;simp only[Er,hl,j6 aG,zC,cO,ht,aO,Dc,he,h1];by_cases e:w=c;simp only[e,yC,zC];exact⟨i,rfl,by rw[hw,e]⟩;simp only[e,yB,zD,lE aG (show ws.length<=9223372036854775807 by omega)];exact t_ hh hc hn m (i+1) (by omega) (by omega) (fun k hk=>by by_cases e2:k=i;subst e2;rw[hw];intro q;exact e (Option.some.inj q);exact hJ k (by omega))
theorem z77(hh:pJ h ws){i j:Nat}(hi:ws[i]? = some a)(hj:ws[j]? = some b)(hn:2000<=n):
  (a&&&b=0->yU n h (i:Int) (j:Int)=some (0,false))/\(a&&&b≠0->∃k:Nat,yU n h (i:Int) (j:Int)=some ((k:Int),true)/\ws[k]? = some (a&&&b)):=by
 obtain⟨t,ht,he⟩:=hh.at hi;obtain⟨t',tD,K7⟩:=hh.at hj;have vO:=zX hi;have jt:=zX hj;have h1:=z6f (hh.ok a vO) (hh.ok b jt) (n:=n) (by omega);simp only[yU,cO,ht,tD,aO,he,K7,h1];constructor;intro h0;rw[h0];rfl;intro h0;have h2:=hh.cls a vO b jt h0;obtain⟨k,h3,h4⟩:=t_ hh h2 (n:=n) (by omega) n 0 (by have:=hh.len;omega) (by omega) (fun k hk=>by omega);rw[zV]at h3;have e1:(((bt (a&&&b)).length:Int)==0)=false:=by rw[rY h0];rfl
 have e2:decide ((k:Int)<0)=false:=by simp
 simp only[e1,zD,xg,h3,aO,e2];exact⟨k,rfl,h4⟩
def kG(ws:List Nat)(t:Int):Nat:=(ws[t.toNat]?).getD 0
theorem Iy{t:Int}(h:0<=t/\t<(ws.length:Int)):ws[t.toNat]? = some (kG ws t):=by
 have:t.toNat<ws.length:=by omega
 rw[kG,List.getElem?_eq_getElem this];rfl
theorem Oq(hh:pJ h ws){s t:Int}(hs:0<=s/\s<(ws.length:Int))(ht:0<=t/\t<(ws.length:Int))(hn:2000<=n):
  ∃r,yU n h s t=some r/\(r.2=false->kG ws s&&&kG ws t=0)/\(r.2=true->(0<=r.1/\r.1<(ws.length:Int))/\kG ws r.1=kG ws s&&&kG ws t):=by
 obtain⟨h1,h2⟩:=z77 hh (Iy hs) (Iy ht) hn;rw[show((s.toNat:Nat):Int)=s by omega,show((t.toNat:Nat):Int)=t by omega]at h1 h2;by_cases e:kG ws s&&&kG ws t=0;exact⟨_,h1 e,fun _=>e,fun q=>by cases q⟩;obtain⟨k,h3,h4⟩:=h2 e;refine⟨_,h3,(fun q=>by cases q),fun _=>⟨?_,?_⟩⟩;have:=(zG.1 h4).1;constructor;exact Int.natCast_nonneg _;show(k:Int)<_;omega;show kG ws (k:Int)=_;rw[kG,zZ,h4];rfl
def celN(c:List aS)(i:Nat):aS:=(c[i]?).getD ⟨-1,0,[]⟩
def dU(mt:Int->Int->Option Int):Nat->List (Int×Int)->List aS->(Nat->Nat)->(Nat->Nat)->Bool×List aS×(Nat->Nat)×(Nat->Nat)
 |0,_,c,a9,d=>(true,c,a9,d)|_+1,[],c,a9,d=>(true,c,a9,d)
 |k+1,p::W,c,a9,d=>
  if a9 p.1.toNat=a9 p.2.toNat then dU mt k W c a9 d else
  match mt (celN c (a9 p.1.toNat)).kind (celN c (a9 p.2.toNat)).kind with
  |none=>(false,c,a9,d)|some t=>dU mt k ((prs (celN c (a9 p.1.toNat)).arcs (celN c (a9 p.2.toNat)).arcs).reverse++W) (vE c (a9 p.1.toNat) (a9 p.2.toNat) t (nP (celN c (a9 p.1.toNat)).arcs (celN c (a9 p.2.toNat)).arcs)) (fO a9 (a9 p.1.toNat) (a9 p.2.toNat)) (AS a9 d (a9 p.2.toNat))
def cX(n:Nat)(h:dW)(s t:Int):Option Int:=match yU n h s t with
 |some (r,true)=>some r|_=>none
def Wh(N:Nat)(p:Int×Int):Prop:=(0<=p.1/\p.1<(N:Int))/\(0<=p.2/\p.2<(N:Int))
theorem iP.celN{N D:Nat}{FB TB:Int}{cells:List aS}{a9 d:Nat->Nat}(h:iP N D FB TB cells a9 d){i:Nat}(hi:i<N):cells[i]? = some (celN cells i):=by
 have h1:=h.len;rw[Go.Proofs.celN,List.getElem?_eq_getElem (by omega)];rfl
variable{N:Nat}
variable{FB:Int}
theorem WM{a b:List aF}(ha:xS N FB a)(hb:xS N FB b):∀p∈prs a b,Wh N p:=fun p hp=>by
 obtain⟨x,hx,y,hy,_,rfl⟩:=mf hp;exact⟨(ha.ok x hx).2.2,(hb.ok y hy).2.2⟩
structure Rnd(N D:Nat)(FB TB:Int)(W:List (Int×Int))(c:List aS)(a9 d:Nat->Nat):Prop where
 hp:iP N D FB TB c a9 d
 wi:∀p∈W,Wh N p
variable{D:Nat}
variable{TB:Int}
variable{W:List (Int×Int)}
variable{p:Int×Int}
variable{c:List aS}
variable{a9:Nat->Nat}
variable{d:Nat->Nat}
theorem Rnd.skip(h:Rnd N D FB TB (p::W) c a9 d):Rnd N D FB TB W c a9 d:=⟨h.hp,fun q hq=>h.wi q (List.mem_cons_of_mem _ hq)⟩
structure Two(N:Nat)(FB TB:Int)(c:List aS)(a9:Nat->Nat)(m n:Nat):Prop where
 hm:m<N
 hn:n<N
 em:a9 m=m
 en:a9 n=n
 cm:c[m]? = some (celN c m)
 cn:c[n]? = some (celN c n)
 am:xS N FB (celN c m).arcs
 an:xS N FB (celN c n).arcs
 km:0<=(celN c m).kind/\(celN c m).kind<TB
 kn:0<=(celN c n).kind/\(celN c n).kind<TB
theorem Rnd.two(h:Rnd N D FB TB (p::W) c a9 d):Two N FB TB c a9 (a9 p.1.toNat) (a9 p.2.toNat):=by
 obtain⟨h1,h2⟩:=h.wi p (by simp);have l1:=h.hp.rok.lt p.1.toNat (by omega);have l2:=h.hp.rok.lt p.2.toNat (by omega);have c1:=h.hp.celN l1;have c2:=h.hp.celN l2;exact⟨l1,l2,h.hp.rok.idem _ (by omega),h.hp.rok.idem _ (by omega),c1,c2,h.hp.ar _ _ c1,h.hp.ar _ _ c2,h.hp.kd _ _ c1,h.hp.kd _ _ c2⟩
theorem Rnd.next(h:Rnd N D FB TB (p::W) c a9 d)(cW:a9 p.1.toNat≠a9 p.2.toNat){t:Int}(ht:0<=t/\t<TB):
  Rnd N (D+1) FB TB ((prs (celN c (a9 p.1.toNat)).arcs (celN c (a9 p.2.toNat)).arcs).reverse++W) (vE c (a9 p.1.toNat) (a9 p.2.toNat) t (nP (celN c (a9 p.1.toNat)).arcs (celN c (a9 p.2.toNat)).arcs)) (fO a9 (a9 p.1.toNat) (a9 p.2.toNat)) (AS a9 d (a9 p.2.toNat)):=by
 have T:=h.two;have hM:=PP _ _ T.am.up T.an.up;refine⟨h.hp.mrg T.hm T.hn T.em T.en cW (hM.ok T.am T.an) ht,fun q hq=>?_⟩;rcases yD.1 hq with hq |hq;exact WM T.am T.an q (List.mem_reverse.1 hq);exact h.wi q (List.mem_cons_of_mem _ hq)
theorem Two.tot{N:Nat}{FB TB:Int}{c:List aS}{a9:Nat->Nat}{m n:Nat}(T:Two N FB TB c a9 m n)(cW:m≠n)(t:Int)(W:List (Int×Int)):((prs (celN c m).arcs (celN c n).arcs).reverse++W).length+tot (vE c m n t (nP (celN c m).arcs (celN c n).arcs))=W.length+tot c:=by
 have:=z7t T.cm T.cn cW t (PP _ _ T.am.up T.an.up);simp only[zU,List.length_reverse];omega
def stk(W:List (Int×Int)):List gM:=(W.map pk).reverse
theorem qx1(p:Int×Int)(W:List (Int×Int)):stk (p::W)=stk W++[pk p]:=by simp[stk]
theorem W_(W:List (Int×Int))(l:List (Int×Int)):stk W++l.map pk=stk (l.reverse++W):=by simp[stk]
theorem Wm(W:List (Int×Int)):(stk W).length=W.length:=by simp[stk]
variable{X:Type}
theorem vr(l:List X)(x:X)(hl:l.length<=1000000000):decide (((l++[x]).length:Int)>0)=true/\IntKind.i64.wrap (((l++[x]).length:Int)-1)=(l.length:Int)/\aB (l++[x]) (l.length:Int)=some x/\(l++[x]).take l.length=l:=by
 refine⟨by simp,?_,?_,by simp⟩;simp only[zU,zO,zS];exact FJ (by omega) (by omega);rw[cO];simp
theorem NW(x:X)(l:List X):pI (x::l) 1 ((x::l).length:Int)=some l:=by
 rw[pI,if_pos (by simp only[zO];omega)];have:(((x::l).length:Int)-1).toNat=l.length:=by simp only[zO];omega
 simp[this]
theorem Bg(x:X)(l:List X):aB (x::l) 0=some x:=by
 have:(0:Int)=((0:Nat):Int):=rfl;rw[this,cO];rfl
theorem By{p1 p2:Int}{P T:List Int}{A:List (List aF)}{r:Int×Bool}:∀(m:Nat)(x y both:List aF)(W:List gM),x.length+y.length<m->j7 x->j7 y->both.length+x.length+y.length<=1000000->W.length+x.length<=1000000->
  CS p1 p2 P T A r m x y both W=Nv p1 p2 P T A r (both++nP x y) (W++(prs x y).map pk)
 |0,x,y,both,W,hm,_,_,_,_=>by omega
 |m+1,[],[],both,W,hm,hx,hy,hb,hw=>by have e:decide ((([]:List aF).length:Int)>0)=false:=rfl;simp only[CS,e,zD,aO,nP,n?,List.append_nil,List.map_nil]
 |m+1,x::a,[],both,W,hm,hx,hy,hb,hw=>by
  have e1:decide (((x::a).length:Int)>0)=true:=by simp only[zO,decide_eq_true_eq];omega
  have e2:((([]:List aF).length:Int)==0)=true:=rfl;simp only[zO,zS]at hm hb hw;have ih:=By (p1:=p1) (p2:=p2) (P:=P) (T:=T) (A:=A) (r:=r) m a [] (both++[x]) W (by simp only[zS];omega) (List.pairwise_cons.1 hx).2 hy (by simp only[zU,zO,zS];omega) (by omega);simp only[CS,e1,e2,zC,aO,Bg,NW,WH];rw[aE,if_pos (by omega),ih];have e3:nP (x::a) []=x::nP a []:=by rw[nP];cases a<;>rw[nP];intro h;cases h;intro h;cases h
  rw[e3,sy,sy];simp
 |m+1,[],y::b,both,W,hm,hx,hy,hb,hw=>by
  have e1:decide ((([]:List aF).length:Int)>0)=false:=rfl;have e2:decide (((y::b).length:Int)>0)=true:=by simp only[zO,decide_eq_true_eq];omega
  have e3:(((y::b).length:Int)==0)=false:=by simp only[zO,beq_eq_false_iff_ne];omega
  have e4:((([]:List aF).length:Int)==0)=true:=rfl;simp only[zO,zS]at hm hb hw;have ih:=By (p1:=p1) (p2:=p2) (P:=P) (T:=T) (A:=A) (r:=r) m [] b (both++[y]) W (by simp only[zS];omega) hx (List.pairwise_cons.1 hy).2 (by simp only[zU,zO,zS];omega) (by simp only[zS];omega);simp only[CS,e1,e2,e3,e4,zC,zD,aO,Bg,NW,Eo,WH];rw[aE,if_pos (by omega),ih];simp[nP,n?]
 |m+1,x::a,y::b,both,W,hm,hx,hy,hb,hw=>by
  have e1:decide (((x::a).length:Int)>0)=true:=by simp only[zO,decide_eq_true_eq];omega
  have e3:(((y::b).length:Int)==0)=false:=by simp only[zO,beq_eq_false_iff_ne];omega
  have e5:(((x::a).length:Int)==0)=false:=by simp only[zO,beq_eq_false_iff_ne];omega
  simp only[zO]at hm hb hw;have Pr:=(List.pairwise_cons.1 hx).2;have EU:=(List.pairwise_cons.1 hy).2;simp only[CS,e1,e3,e5,zC,zD,aO,Bg,NW,Eo,WH];rw[nP];by_cases h1:x.Feat<y.Feat;have ih:=By (p1:=p1) (p2:=p2) (P:=P) (T:=T) (A:=A) (r:=r) m a (y::b) (both++[x]) W (by simp only[zO];omega) Pr hy (by simp only[zU,zO,zS];omega) (by omega);simp only[h1,yC,zC,if_true];rw[aE,if_pos (by omega),ih,WK hy h1];simp;by_cases h2:y.Feat<x.Feat;have ih:=By (p1:=p1) (p2:=p2) (P:=P) (T:=T) (A:=A) (r:=r) m (x::a) b (both++[y]) W (by simp only[zO];omega) hx EU (by simp only[zU,zO,zS];omega) (by simp only[zO];omega);simp only[h1,h2,yC,yB,zC,zD,if_true,if_false];rw[aE,if_pos (by omega),ih,WN hx h2];simp;have e:x.Feat=y.Feat:=by omega
  have ih:=By (p1:=p1) (p2:=p2) (P:=P) (T:=T) (A:=A) (r:=r) m a b (both++[x]) (W++[⟨x.To,y.To⟩]) (by omega) Pr EU (by simp only[zU,zO,zS];omega) (by simp only[zU,zO,zS];omega);simp only[h1,h2,yB,zD,if_false];rw[aE,if_pos (by omega),aE,if_pos (by omega),ih,WO hy e];simp[pk]
theorem Io{h:dW}{ws:List Nat}(hh:pJ h ws){s t:Int}(hs:0<=s/\s<(ws.length:Int))(ht:0<=t/\t<(ws.length:Int)){n:Nat}(hn:2000<=n):
  (cX n h s t=none/\(∃r,yU n h s t=some r/\r.2=false)/\kG ws s&&&kG ws t=0)\/(∃r,cX n h s t=some r/\yU n h s t=some (r,true)/\(0<=r/\r<(ws.length:Int))/\kG ws r=kG ws s&&&kG ws t):=by
 obtain⟨⟨r,b⟩,h1,h2,h3⟩:=Oq hh hs ht hn;rcases b with _|_;exact .inl ⟨by rw[cX,h1],⟨_,h1,rfl⟩,h2 rfl⟩;exact .inr ⟨r,by rw[cX,h1],h1,(h3 rfl).1,(h3 rfl).2⟩
theorem Wl{mt:Int->Int->Option Int}{N:Nat}{FB TB:Int}(pP:∀s t r,(0<=s/\s<TB)->(0<=t/\t<TB)->mt s t=some r->0<=r/\r<TB):∀(k:Nat)(W:List (Int×Int))(c:List aS)(a9 d:Nat->Nat)(D:Nat),Rnd N D FB TB W c a9 d->W.length+tot c<k->
  ∃D',D'+tot (dU mt k W c a9 d).2.1<=D+W.length+tot c/\iP N D' FB TB (dU mt k W c a9 d).2.1 (dU mt k W c a9 d).2.2.1 (dU mt k W c a9 d).2.2.2
 |0,W,c,a9,d,D,h,hk=>by omega
 |k+1,[],c,a9,d,D,h,hk=>⟨D,by simp[dU],h.hp⟩|k+1,p::W,c,a9,d,D,h,hk=>by simp only[zO]at hk ⊢;unfold dU;by_cases e:a9 p.1.toNat=a9 p.2.toNat;rw[if_pos e];obtain⟨D',h1,h2⟩:=Wl pP k W c a9 d D h.skip (by omega);exact⟨D',by omega,h2⟩;rw[if_neg e];have T:=h.two;rcases hm:mt (celN c (a9 p.1.toNat)).kind (celN c (a9 p.2.toNat)).kind with _|t;exact⟨D,by simp,h.hp⟩;have ht:=pP _ _ _ T.km T.kn hm;have hT:=T.tot e t W;obtain⟨D',h1,h2⟩:=Wl pP k _ _ _ _ (D+1) (h.next e ht) (by omega);exact⟨D',by simp only;omega,h2⟩
theorem I_{p7:List bX}(hp:p7.length<=1000000){N:Nat}:∀(m:Nat)(tl:List bX)(c:List aS),tl.length<m->tl.length<=1000000->c.length=N->(∀x∈tl,0<=x.atx/\x.atx<(N:Int))->Eg (p7.length:Int) m c (p7++tl)=some (SK tl c,p7)
 |0,tl,c,hm,_,_,_=>by omega
 |m+1,tl,c,hm,hl,hc,ht=>by
  unfold Eg;rcases List.eq_nil_or_concat tl with e |⟨tl,x,e⟩;subst e;have:decide (((p7++[]).length:Int)>(p7.length:Int))=false:=by simp
  rw[this,zD,wj,List.append_nil];rfl;rw[List.concat_eq_append]at e;subst e;rw[<-zT];simp only[zU,zO,zS]at hm hl;obtain⟨h1,h2,h3,h4⟩:=vr (p7++tl) x (by simp only[zU];omega);have hx:=ht x (by simp);have h5:decide (((p7++tl++[x]).length:Int)>(p7.length:Int))=true:=by simp;omega
  obtain⟨y,hy,_⟩:=fA (l:=c) (show x.atx.toNat<c.length by omega);have h6:aB c x.atx=some y:=by rw[show x.atx=((x.atx.toNat:Nat):Int) by omega,cO];exact hy
  rw[h5,zC,h2,h3,aO,h6,aO,aE,if_pos (by simp only[zU,zO,zS];omega),aE,if_pos (by simp only[zU,zO,zS,zZ];omega),zZ,h4,Nat.zero_add,si];exact I_ hp m tl _ (by omega) (by omega) (by simp[hc]) (fun z hz=>ht z (List.mem_append_left _ hz))
theorem Ac{N:Nat}{FB TB:Int}{c:List aS}{a9:Nat->Nat}{m n:Nat}(T:Two N FB TB c a9 m n)(cW:m≠n)(t:Int)(o:List aF)(tl:List bX):SK ((tl++[⟨(m:Int),celN c m⟩])++[⟨(n:Int),celN c n⟩]) (vE c m n t o)=SK tl c:=by
 rw[si,si];have h1:(c.set m ⟨-1,t,o⟩)[n]? = some (celN c n):=by rw[List.getElem?_set_ne cW];exact T.cn
 simp only[zZ,vE];rw[qww h1,qww T.cm]
theorem lh{h:dW}{ws:List Nat}(hh:pJ h ws){N:Nat}{FB:Int}(J:FB<=1000000000){n:Nat}(hn:100000<=n){p7:List bX}(hp7:p7.length<=100000)(p9:List dJ)(c0:List aS):∀(k:Nat)(W:List (Int×Int))(c:List aS)(a9 d:Nat->Nat)(D:Nat)(tl:List bX)(t:Nat),
  Rnd N D FB ws.length W c a9 d->W.length+tot c<k->D+W.length+tot c<=20000->(∀x∈tl,0<=x.atx/\x.atx<(N:Int))->SK tl c=c0->tl.length+2*(W.length+tot c)<=90000->
  ((dU (cX n h) k W c a9 d).1=true->∃rP t',JX h.Types h.Feats p7 p9 n k (stk W) c (p7++tl) t=some (true,(dU (cX n h) k W c a9 d).2.1,p7++rP,t')/\SK rP (dU (cX n h) k W c a9 d).2.1=c0/\(∀x∈rP,0<=x.atx/\x.atx<(N:Int))/\rP.length+2*tot (dU (cX n h) k W c a9 d).2.1<=tl.length+2*(W.length+tot c))/\
  ((dU (cX n h) k W c a9 d).1=false->∃t',JX h.Types h.Feats p7 p9 n k (stk W) c (p7++tl) t=some (false,c0,p7,t'))
 |0,W,c,a9,d,D,tl,t,hr,hk,_,_,_,_=>by omega
 |k+1,[],c,a9,d,D,tl,t,hr,hk,hD,nY,Fq,MV=>by have e:decide (((stk []).length:Int)>0)=false:=rfl;simp only[dU,JX,e,zD,wv];exact⟨fun _=>⟨tl,t,rfl,Fq,nY,by simp⟩,fun q=>by cases q⟩
 |k+1,p::W,c,a9,d,D,tl,t,hr,hk,hD,nY,Fq,MV=>by
  simp only[zO]at hk hD MV;obtain⟨BD,xY⟩:=hr.wi p (by simp);obtain⟨h1,h2,h3,h4⟩:=vr (stk W) (pk p) (by rw[Wm];omega);have f1:=ux hr.hp (n:=n) (by omega) BD h.Types h.Feats (p7++tl) p9;have f2:=ux hr.hp (n:=n) (by omega) xY h.Types h.Feats (p7++tl) p9;have aU:=Wm W;rw[qx1];unfold JX;simp only[h1,h2,h3,zC,aO,zZ,h4];rw[aE,if_pos (by simp only[zU,zO,zS];omega),aE,if_pos (by simp only[zU,zO,zS];omega)];simp only[pk,f1,f2,aO];unfold dU;by_cases e:a9 p.1.toNat=a9 p.2.toNat;have e1:(rI a9 p.1==rI a9 p.2)=true:=by simp[rI,e]
  simp only[e1,zC];rw[if_pos e];have:=lh hh J hn hp7 p9 c0 k W c a9 d D tl t hr.skip (by omega) (by omega) nY Fq (by omega);refine⟨fun q=>?_,this.2⟩;obtain⟨rP,t',r1,r2,r3,r4⟩:=this.1 q;exact⟨rP,t',r1,r2,r3,by simp only[zO];omega⟩;have e1:(rI a9 p.1==rI a9 p.2)=false:=by simp only[rI,beq_eq_false_iff_ne];omega
  have T:=hr.two;have i1:aB c (rI a9 p.1)=some (celN c (a9 p.1.toNat)):=by rw[rI,cO];exact T.cm
  have i2:aB c (rI a9 p.2)=some (celN c (a9 p.2.toNat)):=by rw[rI,cO];exact T.cn
  simp only[e1,zD,i1,i2,aO];rw[if_neg e];have fF:=hr.hp.len;rcases Io hh T.km T.kn (n:=n) (by omega)with⟨m1,⟨⟨q1,q2⟩,m2,m3⟩,_⟩|⟨r,m1,m2,m3,_⟩;simp only at m3;subst m3;have hb:=I_ (p7:=p7) (by omega) n tl c (by omega) (by omega) fF nY;have xZ:yU n (dW.mk h.Types h.Feats) (celN c (a9 p.1.toNat)).kind (celN c (a9 p.2.toNat)).kind=some (q1,false):=m2;simp only[m1,xZ,aO,Bool.not_false,zC,Nh,hb,Fq];exact⟨(fun q=>by cases q),fun _=>⟨t,rfl⟩⟩;have xZ:yU n (dW.mk h.Types h.Feats) (celN c (a9 p.1.toNat)).kind (celN c (a9 p.2.toNat)).kind=some (r,true):=m2;have ta:=PA T.cm;have tb:=PA T.cn;obtain⟨o,j1,j2⟩:=uw T.am T.an J (by omega) (by omega) (n:=n) (by omega) n 0 (celN c (a9 p.1.toNat)).arcs (by omega) (by omega) (pT.nilr T.am.up);rw[zV,List.take_zero,sy,List.map_nil]at j1;have j3:=j2.uniq (PP _ _ T.am.up T.an.up);have jc:Nc n (celN c (a9 p.1.toNat)).arcs=some (celN c (a9 p.1.toNat)).arcs:=by
   rw[Nc];cases hL:(celN c (a9 p.1.toNat)).arcs with
   |nil=>first |rfl |(simp[bothL,hL])
   |cons x l=>rw[bothL];simp only[zC,zD];rw[hL]at ta;rw[aE,if_pos (by omega)]
  have jj:Lp n (celN c (a9 p.1.toNat)).arcs (celN c (a9 p.2.toNat)).arcs=some (o,(prs (celN c (a9 p.1.toNat)).arcs (celN c (a9 p.2.toNat)).arcs).map pk):=by rw[Lp,jc,aO,j1]
  have e2:(c.set (0+(rI a9 p.1).toNat) (aS.mk (-1) r o))[a9 p.2.toNat]? = some (celN c (a9 p.2.toNat)):=by rw[rI,zZ,Nat.zero_add,List.getElem?_set_ne e];exact T.cn
  have i3:aB (c.set (0+(rI a9 p.1).toNat) (aS.mk (-1) r o)) (rI a9 p.2)=some (celN c (a9 p.2.toNat)):=by rw[show rI a9 p.2=((a9 p.2.toNat:Nat):Int)from rfl,cO];exact e2
  simp only[m1,xZ,aO,Bool.not_true,zD,jj,zr,zq,i1];rw[aE,if_pos (by simp only[zU];omega)];simp only[aO,i3];rw[aE,if_pos (by simp only[zU,zO,zS];omega)];have nF:=Wq (celN c (a9 p.1.toNat)).arcs (celN c (a9 p.2.toNat)).arcs;simp only[aO];rw[aE,if_pos (by simp only[yA];omega)];have hT:=T.tot e r W;have ih:=lh hh J hn hp7 p9 c0 k _ _ _ _ (D+1) ((tl++[⟨rI a9 p.1,celN c (a9 p.1.toNat)⟩])++[⟨rI a9 p.2,celN c (a9 p.2.toNat)⟩]) (t+1+1) (hr.next e m3) (by omega) (by omega)
   (fun x hx=>by simp only[yD,zI,List.not_mem_nil,or_false]at hx;rcases hx with(hx |hx)|hx;exact nY x hx;subst hx;exact hr.hp.rI BD;subst hx;exact hr.hp.rI xY)
   ((Ac T e r _ tl).trans Fq) (by simp only[zU,zO,zS];simp only[zU]at hT;omega)
  have ea:p7++tl++[⟨rI a9 p.1,celN c (a9 p.1.toNat)⟩]++[⟨rI a9 p.2,celN c (a9 p.2.toNat)⟩]=p7++((tl++[⟨rI a9 p.1,celN c (a9 p.1.toNat)⟩])++[⟨rI a9 p.2,celN c (a9 p.2.toNat)⟩]):=by simp
  have ec:(c.set (0+(rI a9 p.1).toNat) (aS.mk (-1) r o)).set (0+(rI a9 p.2).toNat) (aS.mk (rI a9 p.1) 0 [])=vE c (a9 p.1.toNat) (a9 p.2.toNat) r (nP (celN c (a9 p.1.toNat)).arcs (celN c (a9 p.2.toNat)).arcs):=by simp[vE,rI,j3]
  rw[ea,ec,W_];refine⟨fun q=>?_,ih.2⟩;obtain⟨rP,t',r1,r2,r3,r4⟩:=ih.1 q;refine⟨rP,t',r1,r2,r3,?_⟩;simp only[zU,zO,zS]at r4 hT ⊢;omega
theorem mz{h:dW}{ws:List Nat}(hh:pJ h ws){N:Nat}{FB:Int}{n:Nat}(hn:100000<=n):∀(k:Nat)(W:List (Int×Int))(c:List aS)(a9 d:Nat->Nat)(D:Nat)(P T:List Int)(A:List (List aF)),
  Rnd N D FB ws.length W c a9 d->v4 N c P T A a9 d->W.length+tot c<k->D+W.length+tot c<=1000->
  ∃P' T' A',MI h.Types h.Feats n k (stk W) P T A=some ((dU (cX n h) k W c a9 d).1,P',T',A')/\((dU (cX n h) k W c a9 d).1=true->v4 N (dU (cX n h) k W c a9 d).2.1 P' T' A' (dU (cX n h) k W c a9 d).2.2.1 (dU (cX n h) k W c a9 d).2.2.2)
 |0,W,c,a9,d,D,P,T,A,hr,hc,hk,_=>by omega
 |k+1,[],c,a9,d,D,P,T,A,hr,hc,hk,hD=>by have e:decide (((stk []).length:Int)>0)=false:=rfl;simp only[dU,MI,e,zD,xd];exact⟨P,T,A,rfl,fun _=>hc⟩
 |k+1,p::W,c,a9,d,D,P,T,A,hr,hc,hk,hD=>by
  simp only[zO]at hk hD;obtain⟨BD,xY⟩:=hr.wi p (by simp);obtain⟨h1,h2,h3,h4⟩:=vr (stk W) (pk p) (by rw[Wm];omega);obtain⟨P1,f1,Rr⟩:=se hr.hp hc (n:=n) (by omega) BD h.Types h.Feats T A;obtain⟨P2,f2,y6⟩:=se hr.hp Rr (n:=n) (by omega) xY h.Types h.Feats T A;have aU:=Wm W;rw[qx1];unfold MI;simp only[h1,h2,h3,zC,aO,zZ,h4];rw[aE,if_pos (by simp only[zU,zO,zS];omega),aE,if_pos (by simp only[zU,zO,zS];omega)];simp only[pk,f1,f2,aO];unfold dU;by_cases e:a9 p.1.toNat=a9 p.2.toNat;have e1:(rI a9 p.1 != rI a9 p.2)=false:=by simp[rI,e]
  simp only[e1,zD];rw[if_pos e];exact mz hh hn k W c a9 d D P2 T A hr.skip y6 (by omega) (by omega);have e1:(rI a9 p.1 != rI a9 p.2)=true:=by simp only[rI,bne_iff_ne];omega
  have Tw:=hr.two;obtain⟨t1,a1⟩:=y6.same _ _ Tw.cm Tw.em;obtain⟨t2,a2⟩:=y6.same _ _ Tw.cn Tw.en;have i1:aB T (rI a9 p.1)=some (celN c (a9 p.1.toNat)).kind:=by rw[rI,cO];exact t1
  have i2:aB T (rI a9 p.2)=some (celN c (a9 p.2.toNat)).kind:=by rw[rI,cO];exact t2
  have i3:aB A (rI a9 p.1)=some (celN c (a9 p.1.toNat)).arcs:=by rw[rI,cO];exact a1
  have i4:aB A (rI a9 p.2)=some (celN c (a9 p.2.toNat)).arcs:=by rw[rI,cO];exact a2
  obtain⟨z,hz,_⟩:=fA (l:=P2) (show a9 p.2.toNat<P2.length by rw[y6.lp];exact Tw.hn);have i5:aB P2 (rI a9 p.2)=some z:=by rw[rI,cO];exact hz
  simp only[e1,zC,wy,i1,i2,aO];rw[if_neg e];rcases Io hh Tw.km Tw.kn (n:=n) (by omega)with⟨m1,⟨⟨q1,q2⟩,m2,m3⟩,_⟩|⟨r,m1,m2,m3,_⟩;simp only at m3;subst m3;have xZ:yU n (dW.mk h.Types h.Feats) (celN c (a9 p.1.toNat)).kind (celN c (a9 p.2.toNat)).kind=some (q1,false):=m2;simp only[m1,xZ,aO,Bool.not_false,zC];exact⟨_,_,_,rfl,fun q=>by cases q⟩;have xZ:yU n (dW.mk h.Types h.Feats) (celN c (a9 p.1.toNat)).kind (celN c (a9 p.2.toNat)).kind=some (r,true):=m2;have ta:=PA Tw.cm;have tb:=PA Tw.cn;have hmg:=By (p1:=rI a9 p.1) (p2:=rI a9 p.2) (P:=P2) (T:=T) (A:=A) (r:=(r,true)) n (celN c (a9 p.1.toNat)).arcs (celN c (a9 p.2.toNat)).arcs [] (stk W) (by omega) Tw.am.up Tw.an.up (by simp only[zS];omega) (by omega);simp only[m1,xZ,aO,Bool.not_true,zD,i3,i4,i5,hmg,Nv,List.nil_append];have hT:=Tw.tot e r W;rw[W_];have fg:=v4.mrg hr.hp y6 Tw.hm Tw.hn Tw.em Tw.en e r (nP (celN c (a9 p.1.toNat)).arcs (celN c (a9 p.2.toNat)).arcs);have ih:=mz hh hn k _ _ _ _ (D+1) _ _ _ (hr.next e m3) fg (by omega) (by omega);simpa only[rI,zZ,Nat.zero_add]using ih
theorem E?{N D B:Nat}{FB TB:Int}{cells:List aS}{a9 d:Nat->Nat}(h:iP N D FB TB cells a9 d)(hB:tot cells<=B)(ig:B<=20000)(hN:N<=1000)(hD:D<=20000)(p2:List cV)(p3:List dK)(p9:List bX)(dH:List dJ):∀(n:Nat)(s:List Int×List aT)(v:Int)(w:jB Int Int)(t:Nat),Sn N B s->(0<=v/\v<(N:Int))->Rep w s.1->N-s.1.length+20001<n->
  ∃w' t',Q4 n v p2 p3 w s.2 t cells p9 dH=some ((vis cells a9 n s v).1,w',(vis cells a9 n s v).2.2,t')/\Rep w' (vis cells a9 n s v).2.1
 |0,s,v,w,t,hs,hv,hw,hn=>by omega
 |n+1,s,v,w,t,hs,hv,hw,hn=>by
  have hf:=ux h (n:=n) (by omega) hv p2 p3 p9 dH;have hr:=h.rI hv;have sG:=hs.le;show ∃w' t',ww n (Q4 n) v p2 p3 w s.2 t cells p9 dH=_/\_;simp only[ww,hf,aO,hw.mget];unfold vis;by_cases hm:rI a9 v∈s.1;simp only[hm,if_true,Option.isSome_some,zC,Option.getD_some];exact⟨w,t,rfl,hw⟩;have hc:=h.cel hr;have jp:aB cells (rI a9 v)=some (iE cells (rI a9 v)):=by rw[show rI a9 v=(((rI a9 v).toNat:Nat):Int) by omega,cO];exact hc
  have YM:=h.ar _ _ hc;have QX:=PA hc;have uN:=hs.snoc hr hm (iE cells (rI a9 v)).kind;have A4:=uN.le;simp only[zU,zO,zS]at A4;have aU:=hs.len;simp only[hm,if_false,Option.isSome_none,zD,jp,aO];rw[aE,if_pos (by omega)];have lK:∀a∈(iE cells (rI a9 v)).arcs,0<=a.To/\a.To<(N:Int):=fun a ha=>(YM.ok a ha).2.2;have key:∀(m i:Nat)(aY:List aF)(s':List Int×List aT)(w:jB Int Int)(t:Nat),(iE cells (rI a9 v)).arcs.length-i<m->i<=(iE cells (rI a9 v)).arcs.length->aY.length=i->Sn N B s'->s.1.length+1<=s'.1.length->Rep w s'.1->
    ∃w' t',El p2 p3 s.2 cells p9 dH (iE cells (rI a9 v)) (Q4 n) m (i:Int) aY w s'.2 t=Nt s.2 (nL (vis cells a9 n) ((iE cells (rI a9 v)).arcs.drop i) s' aY).1 w' (nL (vis cells a9 n) ((iE cells (rI a9 v)).arcs.drop i) s' aY).2.2 t'/\Rep w' (nL (vis cells a9 n) ((iE cells (rI a9 v)).arcs.drop i) s' aY).2.1/\Sn N B (nL (vis cells a9 n) ((iE cells (rI a9 v)).arcs.drop i) s' aY).2/\s.1.length+1<=(nL (vis cells a9 n) ((iE cells (rI a9 v)).arcs.drop i) s' aY).2.1.length:=by
   intro m;induction m with
   |zero=>intro i aY s' w t hm;omega|succ m ih=>intro i aY s' w t hm hi ha tZ y3 uM;unfold El;by_cases aG:i<(iE cells (rI a9 v)).arcs.length;obtain⟨a,Qz,vO⟩:=fA aG;have nY:=lK a vO;have aq:=tZ.le;obtain⟨w1,t1,g1,g2⟩:=E? h hB ig hN hD p2 p3 p9 dH n s' a.To w t tZ nY uM (by omega);obtain⟨q1,q2,q3⟩:=Ik h hB n s' a.To tZ nY (by omega);simp only[j6 aG,zC,cO,Qz,aO,g1,lE aG (show(iE cells (rI a9 v)).arcs.length<=9223372036854775807 by omega)];rw[aE,if_pos (by omega),aX Qz,nL];exact ih (i+1) _ _ w1 t1 (by omega) (by omega) (by simp[ha]) q1 (by omega) g2;rw[bY aG];simp only[jY aG,zD,nL];exact⟨w,t,rfl,uM,tZ,y3⟩
  obtain⟨w1,t1,g1,g2,g3,g4⟩:=key n 0 [] (s.1++[rI a9 v],s.2++[⟨(iE cells (rI a9 v)).kind,[]⟩]) (AP (fun a b=>a==b) w (rI a9 v) (s.2.length:Int)) (t+1) (by omega) (by omega) rfl uN (by simp) (by rw[aU];exact hw.snoc hm);rw[zV]at g1;rw[List.drop_zero]at g1 g2 g3 g4;rw[g1];refine⟨w1,t1,?_,g2⟩;obtain⟨x,hx,_⟩:=fA (l:=(nL (vis cells a9 n) (iE cells (rI a9 v)).arcs (s.1++[rI a9 v],s.2++[⟨(iE cells (rI a9 v)).kind,[]⟩]) []).2.2) (show s.2.length<_ by have:=g3.len;omega);simp only[Nt,cO,hx,aO,Nat.zero_add,zZ,UM,<-aU,zM,Option.getD_some]
structure Num(N:Nat)(w:List Int)(o:List Int):Prop where
 len:w.length=N
 get:∀x:Int,0<=x->x<(N:Int)->w[x.toNat]? = some (if x∈o then(o.idxOf x:Int)else -1)
variable{N:Nat}
variable{v:Int}
theorem Num.snoc{w o:List Int}(h:Num N w o)(hv:0<=v/\v<(N:Int))(hn:v ∉ o):Num N (w.set v.toNat (o.length:Int)) (o++[v]):=⟨by simp[h.len],fun x h1 h2=>by
 rw[List.getElem?_set];by_cases e:v.toNat=x.toNat;have:v=x:=by omega
 subst this;rw[if_pos rfl,if_pos (by have:=h.len;omega)];simp[List.idxOf_append,hn];have cW:x≠v:=fun q=>e (by rw[q]);rw[if_neg e,h.get x h1 h2];by_cases hx:x∈o;simp[hx,List.idxOf_append];simp[hx,cW]⟩
theorem T?{N D B:Nat}{FB TB:Int}{cells:List aS}{a9 d:Nat->Nat}(h:iP N D FB TB cells a9 d)(hB:tot cells<=B)(ig:B<=1000)(hN:N<=1000)(hD:D<=1000){T:List Int}{A:List (List aF)}(p2:List cV)(p3:List dK):∀(n:Nat)(s:List Int×List aT)(v:Int)(w:List Int)(t:Nat)(P:List Int),Sn N B s->(0<=v/\v<(N:Int))->Num N w s.1->v4 N cells P T A a9 d->N-s.1.length+1001<n->
  ∃w' t' P',Q7 n v N p2 p3 w s.2 t P T A=some ((vis cells a9 n s v).1,w',(vis cells a9 n s v).2.2,t',P')/\Num N w' (vis cells a9 n s v).2.1/\v4 N cells P' T A a9 d
 |0,s,v,w,t,P,hs,hv,hw,fF,hn=>by omega
 |n+1,s,v,w,t,P,hs,hv,hw,fF,hn=>by
  obtain⟨P1,hf,Rr⟩:=se h fF (n:=n) (by omega) hv p2 p3 T A;have hr:=h.rI hv;have sG:=hs.le;have hg:=hw.get _ hr.1 hr.2;have sY:rW w 0 N (rI a9 v)=some (if rI a9 v∈s.1 then(s.1.idxOf (rI a9 v):Int)else -1):=by rw[rW,if_pos hr,Nat.zero_add];exact hg
  show ∃w' t' P',xf n (Q7 n) v N p2 p3 w s.2 t P T A=_/\_;simp only[xf,hf,aO,sY];unfold vis;by_cases hm:rI a9 v∈s.1;have:decide ((s.1.idxOf (rI a9 v):Int)>=0)=true:=by simp
  simp only[hm,if_true,this,zC];exact⟨w,t,P1,rfl,hw,Rr⟩;have H8:decide ((-1:Int)>=0)=false:=rfl;have hc:=h.cel hr;have z0:a9 (rI a9 v).toNat=(rI a9 v).toNat:=by rw[rI,zZ];exact h.rok.idem _ (by omega)
  obtain⟨t1,a1⟩:=Rr.same _ _ hc z0;have i1:aB T (rI a9 v)=some (iE cells (rI a9 v)).kind:=by rw[show rI a9 v=(((rI a9 v).toNat:Nat):Int) by omega,cO];exact t1
  have i2:aB A (rI a9 v)=some (iE cells (rI a9 v)).arcs:=by rw[show rI a9 v=(((rI a9 v).toNat:Nat):Int) by omega,cO];exact a1
  have YM:=h.ar _ _ hc;have QX:=PA hc;have uN:=hs.snoc hr hm (iE cells (rI a9 v)).kind;have A4:=uN.le;simp only[zU,zO,zS]at A4;have aU:=hs.len;simp only[hm,if_false,H8,zD,i1,i2,aO];rw[aE,if_pos (by omega)];have lK:∀a∈(iE cells (rI a9 v)).arcs,0<=a.To/\a.To<(N:Int):=fun a ha=>(YM.ok a ha).2.2;have key:∀(m i:Nat)(aY:List aF)(s':List Int×List aT)(w:List Int)(t:Nat)(P:List Int),(iE cells (rI a9 v)).arcs.length-i<m->i<=(iE cells (rI a9 v)).arcs.length->aY.length=i->Sn N B s'->s.1.length+1<=s'.1.length->Num N w s'.1->v4 N cells P T A a9 d->
    ∃w' t' P',Ep N p2 p3 s.2 T A (iE cells (rI a9 v)).arcs (Q7 n) m (i:Int) aY w s'.2 t P=Nw s.2 (nL (vis cells a9 n) ((iE cells (rI a9 v)).arcs.drop i) s' aY).1 w' (nL (vis cells a9 n) ((iE cells (rI a9 v)).arcs.drop i) s' aY).2.2 t' P'/\Num N w' (nL (vis cells a9 n) ((iE cells (rI a9 v)).arcs.drop i) s' aY).2.1/\v4 N cells P' T A a9 d/\Sn N B (nL (vis cells a9 n) ((iE cells (rI a9 v)).arcs.drop i) s' aY).2/\s.1.length+1<=(nL (vis cells a9 n) ((iE cells (rI a9 v)).arcs.drop i) s' aY).2.1.length:=by
   intro m;induction m with
   |zero=>intro i aY s' w t P hm;omega|succ m ih=>intro i aY s' w t P hm hi ha tZ y3 uM HG;unfold Ep;by_cases aG:i<(iE cells (rI a9 v)).arcs.length;obtain⟨a,Qz,vO⟩:=fA aG;have nY:=lK a vO;have aq:=tZ.le;obtain⟨w1,t1,P1,g1,g2,g3⟩:=T? h hB ig hN hD p2 p3 n s' a.To w t P tZ nY uM HG (by omega);obtain⟨q1,q2,q3⟩:=Ik h hB n s' a.To tZ nY (by omega);simp only[j6 aG,zC,cO,Qz,aO,g1,lE aG (show(iE cells (rI a9 v)).arcs.length<=9223372036854775807 by omega)];rw[aE,if_pos (by omega),aX Qz,nL];exact ih (i+1) _ _ w1 t1 P1 (by omega) (by omega) (by simp[ha]) q1 (by omega) g2 g3;rw[bY aG];simp only[jY aG,zD,nL];exact⟨w,t,P,rfl,uM,HG,tZ,y3⟩
  obtain⟨w1,t1,P3,g1,g2,g5,g3,g4⟩:=key n 0 [] (s.1++[rI a9 v],s.2++[⟨(iE cells (rI a9 v)).kind,[]⟩]) (w.set (rI a9 v).toNat (s.2.length:Int)) (t+1) P1 (by omega) (by omega) rfl uN (by simp) (by rw[aU];exact hw.snoc hr hm) Rr;rw[zV]at g1;rw[List.drop_zero]at g1 g2 g3 g4;rw[g1];refine⟨w1,t1,P3,?_,g2,g5⟩;obtain⟨x,hx,_⟩:=fA (l:=(nL (vis cells a9 n) (iE cells (rI a9 v)).arcs (s.1++[rI a9 v],s.2++[⟨(iE cells (rI a9 v)).kind,[]⟩]) []).2.2) (show s.2.length<_ by have:=g3.len;omega);simp only[Nw,cO,hx,aO,Nat.zero_add,zZ,UM,<-aU,zM,Option.getD_some]
def OL(n:Nat)(cells:List aS)(a9:Nat->Nat)(v:Int):GFS:=⟨(vis cells a9 n ([],[]) v).2.2⟩
variable{D:Nat}
variable{FB:Int}
variable{TB:Int}
variable{cells:List aS}
variable{a9:Nat->Nat}
variable{d:Nat->Nat}
variable{n:Nat}
theorem z4g{B:Nat}(h:iP N D FB TB cells a9 d)(hB:tot cells<=1000)(hN:N<=1000)(hn:3000<=n)(hv:0<=v/\v<(N:Int)):cU (OL n cells a9 v) 1000:=by
 obtain⟨h1,_,_⟩:=Ik h hB n ([],[]) v (Sn.nil N 1000) hv (by simp;omega);have h2:=h1.le;have h3:=h1.len;exact⟨by show(vis cells a9 n ([],[]) v).2.2.length<=1000;omega,h1.sm⟩
theorem mc(h:iP N D FB TB cells a9 d)(hB:tot cells<=20000)(hN:N<=1000)(hD:D<=20000)(hn:30000<=n)(hv:0<=v/\v<(N:Int))(p2:List cV)(p3:List dK)(p9:List bX)(dH:List dJ):
  MD n v p2 p3 cells p9 dH=some (OL n cells a9 v,true):=by
 have hl:=h.len;obtain⟨w',t',g1,_⟩:=E? h hB (by omega) hN hD p2 p3 p9 dH n ([],[]) v E7 0 (Sn.nil N 20000) hv Rep.nil (by simp;omega);have e1:decide (v<0)=false:=by simp;omega
 have e2:decide (v>=(cells.length:Int))=false:=by simp;omega
 simp only[MD,e1,e2,zD,aO,g1,OL]
theorem s_{p1:Int}{p2:List cV}{p3:List dK}{P T:List Int}{A:List (List aF)}{n N:Nat}(hP:P.length=N)(hN:N<=1000000):∀(m i:Nat),N-i<m->i<=N->En p1 p2 p3 P T A n m (i:Int) (List.replicate i (-1)++List.replicate (N-i) 0)=Nu p1 p2 p3 P T A n (List.replicate N (-1))
 |0,i,hm,_=>by omega
 |m+1,i,hm,hi=>by
  unfold En;rw[hP,zZ];by_cases aG:i<N;have e0:N-i=(N-(i+1))+1:=by omega
  have e1:rW (List.replicate i (-1:Int)++List.replicate (N-i) 0) 0 N (i:Int)=some 0:=by rw[rW,if_pos (by omega),Nat.zero_add,zZ,List.getElem?_append_right (by simp),e0];simp
  have e2:(List.replicate i (-1:Int)++List.replicate (N-i) 0).set (i:Int).toNat (-1)=List.replicate (i+1) (-1)++List.replicate (N-(i+1)) 0:=by rw[e0,List.replicate_succ,zZ];have:=rz (List.replicate i (-1:Int)) (List.replicate (N-(i+1)) 0) 0 (-1);rw[List.length_replicate]at this;rw[this,List.replicate_succ',zT];rfl
  simp only[j6 aG,zC,e1,aO,e2,lE aG (show N<=9223372036854775807 by omega)];exact s_ hP hN m (i+1) (by omega) (by omega);have:i=N:=by omega
  subst this;simp only[jY aG,zD,Nat.sub_self,List.replicate_zero,List.append_nil]
theorem z3o(h:iP N D FB TB cells a9 d)(hB:tot cells<=1000)(hN:N<=1000)(hD:D<=1000){P T:List Int}{A:List (List aF)}(hc:v4 N cells P T A a9 d)(hn:3000<=n)(hv:0<=v/\v<(N:Int))(p2:List cV)(p3:List dK):
  ∃P',Nr n v p2 p3 P T A=some (OL n cells a9 v,P'):=by
 have hl:=hc.lp;have ag:Num N (List.replicate N (-1)) []:=⟨by simp,fun x h1 h2=>by rw[List.getElem?_replicate,if_pos (by omega)];simp⟩;obtain⟨w',t',P',g1,_⟩:=T? h hB (by omega) hN hD p2 p3 n ([],[]) v _ 0 P (Sn.nil N 1000) hv ag hc (by simp;omega);have h0:=s_ (p1:=v) (p2:=p2) (p3:=p3) (T:=T) (A:=A) (n:=n) hl (by omega) n 0 (by omega) (by omega);rw[zV,Nat.sub_zero,List.replicate_zero,List.nil_append]at h0;refine⟨P',?_⟩;rw[Nr,aE,if_pos (by rw[hl];simp;omega),hl,zZ,h0,Nu,hl,zZ,g1];rfl
structure AT(h:dW)(f:GFS):Prop where
 sm:cU f 12
 ne:0<f.Nodes.length
 nok:∀x∈f.Nodes,(0<=x.Typex/\x.Typex<(h.Types.length:Int))/\xS f.Nodes.length (h.Feats.length:Int) x.Arcs
 can:gW f 0=f
 gok:AB f
theorem F_{h:dW}{z:Int}{rc:Int->Option Int}{x:aT}{Q:Prop}(hx:x.Arcs.length<=12)(hr:∃r,rc (IntKind.i64.wrap (z+1))=some r/\(r=0->Q)):∀(m k:Nat),x.Arcs.length-k<m->k<=x.Arcs.length->∃r,Dq h z rc x m (k:Int)=some r/\(r=0->Q/\∀a∈x.Arcs.drop k,a.Feat<(h.Feats.length:Int))
 |0,k,hm,_=>by omega
 |m+1,k,hm,hk=>by unfold Dq;by_cases aG:k<x.Arcs.length;obtain⟨a,ha,_⟩:=fA aG;simp only[j6 aG,zC,cO,ha,aO,lE aG (show x.Arcs.length<=9223372036854775807 by omega)];by_cases hf:a.Feat>=(h.Feats.length:Int);simp only[hf,yC,zC];exact⟨_,rfl,fun q=>by cases q⟩;simp only[hf,yB,zD];obtain⟨r,r1,r2⟩:=F_ hx hr m (k+1) (by omega) (by omega);refine⟨r,r1,fun q=>⟨(r2 q).1,fun b hb=>?_⟩⟩;rw[aX ha]at hb;rcases zI.1 hb with rfl |hb;omega;exact(r2 q).2 b hb;simp only[jY aG,zD,Zr,bY aG];obtain⟨r,r1,r2⟩:=hr;exact⟨r,r1,fun q=>⟨r2 q,fun a ha=>by cases ha⟩⟩
theorem G_{h:dW}{f:GFS}{n:Nat}{r3:GFS×Int}{Q:Prop}(hs:cU f 12)(hn:12<n)(hk:∃r,Dr f n r3=some r/\(r=0->Q)):∀(m i:Nat),f.Nodes.length-i<m->i<=f.Nodes.length->∃r,PW h f n r3 m (i:Int)=some r/\(r=0->Q/\∀x∈f.Nodes.drop i,x.Typex<(h.Types.length:Int)/\∀a∈x.Arcs,a.Feat<(h.Feats.length:Int))
 |0,i,hm,_=>by omega
 |m+1,i,hm,hi=>by have uQ:=hs.nodes;unfold PW;by_cases aG:i<f.Nodes.length;obtain⟨x,hx,fQ⟩:=fA aG;have GW:=hs.arcs x fQ;simp only[j6 aG,zC,cO,hx,aO];by_cases ht:x.Typex>=(h.Types.length:Int);simp only[ht,yC,zC];exact⟨_,rfl,fun q=>by cases q⟩;simp only[ht,yB,zD];have ih:=G_ (h:=h) hs hn hk m (i+1) (by omega) (by omega);rw[<-lE aG (show f.Nodes.length<=9223372036854775807 by omega)]at ih;obtain⟨r,r1,r2⟩:=F_ (h:=h) (z:=(i:Int)) (x:=x) GW ih n 0 (by omega) (by omega);rw[zV]at r1;refine⟨r,r1,fun q=>?_⟩;obtain⟨⟨q1,q2⟩,q3⟩:=r2 q;refine⟨q1,fun y hy=>?_⟩;rw[aX hx]at hy;rcases zI.1 hy with rfl |hy;exact⟨by omega,by rw[List.drop_zero]at q3;exact q3⟩;exact q2 y hy;simp only[jY aG,zD,bY aG];obtain⟨r,r1,r2⟩:=hk;exact⟨r,r1,fun q=>⟨r2 q,fun a ha=>by cases ha⟩⟩
variable{n:Nat}
theorem ZS{f:GFS}(hs:cU f 12)(h:dW)(hn:3000000<=n):∃r,Cv n h f=some r/\(r=0->AT h f):=by
 have h2:=qur hs (by omega) (n:=n) (show 2*12+4<=n by omega);by_cases e:FS f=0;rw[if_pos e]at h2;obtain⟨g1,g2,g3⟩:=qrz.1 e;have i9:qH f 0:=⟨by omega,by omega⟩;have Fh:=hs.canon g3 (r:=0) i9;have q2:=qwp (f:=f) (g:=⟨(gW f 0).Nodes⟩) (n:=n) (hs.up (by omega)) (Fh.up (by omega)) hn;have hk:∃r,Dr f n (gW f 0,0)=some r/\(r=0->f=gW f 0):=by simp only[Dr,q2,aO];cases hb:(ZV f ⟨(gW f 0).Nodes⟩==0);exact⟨_,rfl,fun q=>by cases q⟩;exact⟨_,rfl,fun _=>qvc.1 (by simpa using hb)⟩
 obtain⟨r,r1,r2⟩:=G_ (h:=h) hs (by omega) hk n 0 (by have:=hs.nodes;omega) (by omega);rw[zV]at r1;refine⟨r,by simp only[Cv,h2,aO];exact r1,fun q=>?_⟩;obtain⟨q1,q3⟩:=r2 q;rw[List.drop_zero]at q3;have hc:=V? g3 i9;refine⟨hs,by omega,fun x hx=>⟨⟨(g3 x hx).ty,(q3 x hx).1⟩,?_,fun a ha=>?_⟩,q1.symm,g3⟩;exact hc.up x (q1 ▸ hx);have:=(g3 x hx).arc a ha;exact⟨this.1,(q3 x hx).2 a ha,this.2⟩;rw[if_neg e]at h2;have e':(FS f != 0)=true:=by simp[e]
 exact⟨FS f,by simp only[Cv,h2,aO,e',zC],fun q=>absurd q e⟩
theorem y_{h:dW}{l:List GFS}(hl:l.length<=1000000){n:Nat}(hn:3000000<=n):∀(m i:Nat),l.length-i<m->i<=l.length->∃b,Do h l n m (i:Int)=some b/\(b=true->∀f∈l.drop i,AT h f)
 |0,i,hm,_=>by omega
 |m+1,i,hm,hi=>by
  unfold Do;by_cases aG:i<l.length;obtain⟨f,hf,_⟩:=fA aG;obtain⟨b,b1,b2⟩:=z3t f (n:=n) (by omega);simp only[j6 aG,zC,cO,hf,aO,b1,lE aG (show l.length<=9223372036854775807 by omega)];rcases b with _|_;simp only[Bool.not_false,zC,aO];exact⟨false,rfl,fun q=>by cases q⟩;obtain⟨r,r1,r2⟩:=ZS (b2 rfl) h hn;simp only[Bool.not_true,zD,r1,aO];cases hr:(r != 0)with
  |true=>simp only[zC];exact⟨false,rfl,fun q=>by cases q⟩|false=>simp only[zD];obtain⟨b,g1,g2⟩:=y_ hl hn m (i+1) (by omega) (by omega);refine⟨b,g1,fun q g hg=>?_⟩;rw[aX hf]at hg;rcases zI.1 hg with rfl |hg;exact r2 (by simpa using hr);exact g2 q g hg
  simp only[jY aG,zD,Zp,bY aG];exact⟨true,rfl,fun _ f hf=>by cases hf⟩
theorem z6w(h:dW){l:List GFS}(hl:l.length<=1000000)(hn:3000000<=n):∃b,Yc n h l=some b/\(b=true->∀f∈l,AT h f):=by
 obtain⟨b,h1,h2⟩:=y_ (h:=h) hl hn n 0 (by omega) (by omega);rw[zV]at h1;exact⟨b,h1,h2⟩
def nB(k:Nat)(a:aF):aF:=⟨a.Feat,a.To+(k:Int)⟩
def mL(k:Nat)(x:aT):aS:=⟨-1,x.Typex,x.Arcs.map (nB k)⟩
theorem Gg{a:aF}{k:Nat}(h:0<=a.To/\a.To<1000)(hk:k<=1000):IntKind.i64.wrap (a.To+(k:Int))=a.To+(k:Int):=wr (by omega) (by omega)
theorem v?{p4:List aS}{z:Int}{l24:List aS}{t:Nat}{rc:Int->List aS->Nat->Option (Int×List aS×Nat)}{x:aT}(hx:x.Arcs.length<=12)(hp:p4.length<=1000)(lK:∀a∈x.Arcs,0<=a.To/\a.To<1000):∀(m i:Nat),x.Arcs.length-i<m->i<=x.Arcs.length->Eh p4 z l24 t rc x m (i:Int) ((x.Arcs.take i).map (nB p4.length))=Np z l24 t rc x (x.Arcs.map (nB p4.length))
 |0,i,hm,_=>by omega
 |m+1,i,hm,hi=>by
  unfold Eh;by_cases aG:i<x.Arcs.length;obtain⟨a,ha,vO⟩:=fA aG;have e:(x.Arcs.take i).map (nB p4.length)++[aF.mk a.Feat (a.To+(p4.length:Int))]=(x.Arcs.take (i+1)).map (nB p4.length):=by rw[j5 ha,List.map_append];rfl
  simp only[j6 aG,zC,cO,ha,aO,Gg (lK a vO) hp,lE aG (show x.Arcs.length<=9223372036854775807 by omega),e];rw[aE,if_pos (by simp only[yA,List.length_take];omega)];exact v? hx hp lK m (i+1) (by omega) (by omega);simp only[jY aG,zD];rw[zW (by omega)]
theorem w?{f:GFS}(hf:cU f 12)(lK:∀x∈f.Nodes,∀a∈x.Arcs,0<=a.To/\a.To<1000){p4:List aS}(hp:p4.length<=1000){n:Nat}(hn:20<=n){t0:Nat}:∀(m i:Nat),f.Nodes.length-i<m->i<=f.Nodes.length->MG f p4 n m (i:Int) (p4++(f.Nodes.take i).map (mL p4.length)) (t0+i)=some ((p4.length:Int),p4++f.Nodes.map (mL p4.length),t0+f.Nodes.length)
 |0,i,hm,_=>by omega
 |m+1,i,hm,hi=>by
  have uQ:=hf.nodes;unfold MG;by_cases aG:i<f.Nodes.length;obtain⟨x,hx,fQ⟩:=fA aG;have h2:=v? (z:=(i:Int)) (l24:=p4++(f.Nodes.take i).map (mL p4.length)) (t:=t0+i) (rc:=MG f p4 n m) (hf.arcs x fQ) hp (lK x fQ) n 0 (by have:=hf.arcs x fQ;omega) (by omega);rw[zV,List.take_zero,List.map_nil]at h2;have e:p4++(f.Nodes.take i).map (mL p4.length)++[aS.mk (-1) x.Typex (x.Arcs.map (nB p4.length))]=p4++(f.Nodes.take (i+1)).map (mL p4.length):=by rw[j5 hx,List.map_append,zT];rfl
  simp only[j6 aG,zC,cO,hx,aO,h2,Np,lE aG (show f.Nodes.length<=9223372036854775807 by omega),e];rw[aE,if_pos (by simp only[zU,yA,List.length_take];omega)];exact w? hf lK hp hn m (i+1) (by omega) (by omega);have e:i=f.Nodes.length:=by omega
  subst e;simp only[jY aG,zD,wm,List.take_length]
theorem Wv{f:GFS}(hf:cU f 12)(lK:∀x∈f.Nodes,∀a∈x.Arcs,0<=a.To/\a.To<1000){p4:List aS}(hp:p4.length<=1000)(hn:20<=n)(t0:Nat)(p2:List cV)(p3:List dK)(p6:List bX)(p8:List dJ):WF n f p2 p3 p4 t0 p6 p8=some ((p4.length:Int),p4++f.Nodes.map (mL p4.length),t0+f.Nodes.length):=by
 have:=w? hf lK hp hn (t0:=t0) n 0 (by have:=hf.nodes;omega) (by omega);rw[zV,List.take_zero,List.map_nil,List.append_nil,Nat.add_zero]at this;exact this
theorem N_{p4:List Int}{z:Int}{l23 l25:List Int}{l27:List (List aF)}{rc:Int->List Int->List Int->List (List aF)->Option (List Int×List Int×List (List aF))}{x:aT}(hx:x.Arcs.length<=1000)(hp:p4.length<=1000)(lK:∀a∈x.Arcs,0<=a.To/\a.To<1000):∀(m i:Nat),x.Arcs.length-i<m->i<=x.Arcs.length->Ek p4 z l23 l25 l27 rc x m (i:Int) ((x.Arcs.take i).map (nB p4.length))=Ns p4 z l23 l25 l27 rc x (x.Arcs.map (nB p4.length))
 |0,i,hm,_=>by omega
 |m+1,i,hm,hi=>by
  unfold Ek;by_cases aG:i<x.Arcs.length;obtain⟨a,ha,vO⟩:=fA aG;have e:(x.Arcs.take i).map (nB p4.length)++[aF.mk a.Feat (a.To+(p4.length:Int))]=(x.Arcs.take (i+1)).map (nB p4.length):=by rw[j5 ha,List.map_append];rfl
  simp only[j6 aG,zC,cO,ha,aO,Gg (lK a vO) hp,lE aG (show x.Arcs.length<=9223372036854775807 by omega),e];rw[aE,if_pos (by simp only[yA,List.length_take];omega)];exact N_ hx hp lK m (i+1) (by omega) (by omega);simp only[jY aG,zD];rw[zW (by omega)]
def tT(a k:Nat):List Int:=(List.range k).map fun i=>((a+i:Nat):Int)
theorem uo(a k:Nat):tT a (k+1)=tT a k++[((a+k:Nat):Int)]:=by simp[tT,List.range_succ]
theorem V1(a k:Nat):(tT a k).length=k:=by simp[tT]
theorem O_{l:List aT}(hf:cU ⟨l⟩ 1000)(lK:∀x∈l,∀a∈x.Arcs,0<=a.To/\a.To<1000){P T:List Int}{A:List (List aF)}(hp:P.length<=1000)(hT:T.length=P.length)(hA:A.length=P.length){n:Nat}(hn:2000<=n):∀(m i:Nat),l.length-i<m->i<=l.length->
  MH l P n m (i:Int) (P++tT P.length i) (T++(l.take i).map aT.Typex) (A++(l.take i).map fun x=>x.Arcs.map (nB P.length))=some (P++tT P.length l.length,T++l.map aT.Typex,A++l.map fun x=>x.Arcs.map (nB P.length))
 |0,i,hm,_=>by omega
 |m+1,i,hm,hi=>by
  have uQ:l.length<=1000:=hf.nodes;unfold MH;by_cases aG:i<l.length;obtain⟨x,hx,fQ⟩:=fA aG;have GW:=hf.arcs x fQ;have h2:=fun l23 l25 l27=>N_ (z:=(i:Int)) (l23:=l23) (l25:=l25) (l27:=l27) (rc:=MH l P n m) GW hp (lK x fQ) n 0 (by omega) (by omega);simp only[zV,List.take_zero,List.map_nil]at h2;have e:A++((l.take i).map fun x=>x.Arcs.map (nB P.length))++[x.Arcs.map (nB P.length)]=A++(l.take (i+1)).map fun x=>x.Arcs.map (nB P.length):=by rw[j5 hx,List.map_append,zT];rfl
  have e2:T++(l.take i).map aT.Typex++[x.Typex]=T++(l.take (i+1)).map aT.Typex:=by rw[j5 hx,List.map_append,zT];rfl
  have e4:IntKind.i64.wrap ((P.length:Int)+(i:Int))=((P.length+i:Nat):Int):=FJ (by omega) (by omega);have e3:P++tT P.length i++[((P.length+i:Nat):Int)]=P++tT P.length (i+1):=by rw[uo,zT]
  have hr:=V1 P.length i;simp only[j6 aG,zC,cO,hx,aO];rw[aE,if_pos (by simp only[zU,hr];omega),aE,if_pos (by simp only[zU,yA,List.length_take];omega),h2,Ns,aE,if_pos (by simp only[zU,yA,List.length_take];omega),e,e2,e4,e3,lE aG (show l.length<=9223372036854775807 by omega)];exact O_ hf lK hp hT hA hn m (i+1) (by omega) (by omega);have e:i=l.length:=by omega
  subst e;simp only[jY aG,zD,xa,List.take_length]
theorem M_{l:List aT}(hf:cU ⟨l⟩ 1000)(lK:∀x∈l,∀a∈x.Arcs,0<=a.To/\a.To<1000){P T:List Int}{A:List (List aF)}(hp:P.length<=1000)(hT:T.length=P.length)(hA:A.length=P.length)(hn:2000<=n)(p2:List cV)(p3:List dK):
  Nk n l p2 p3 P T A=some (P++tT P.length l.length,T++l.map aT.Typex,A++l.map fun x=>x.Arcs.map (nB P.length)):=by
 have:=O_ hf lK hp hT hA hn n 0 (by have:l.length<=1000:=hf.nodes;omega) (by omega);rw[zV,List.take_zero,List.map_nil,List.map_nil,List.append_nil,List.append_nil,show tT P.length 0=[]from rfl,List.append_nil]at this;exact this
structure Flat(N:Nat)(FB TB:Int)(c:aS):Prop where
 fw:c.forward= -1
 ar:xS N FB c.arcs
 kd:0<=c.kind/\c.kind<TB
 sm:c.arcs.length<=12
variable{N:Nat}
theorem iP.init{FB TB:Int}{cells:List aS}(hl:cells.length=N)(h:∀c∈cells,Flat N FB TB c):iP N 0 FB TB cells id (fun _=>0) where
 rok:=⟨fun i hi=>hi,fun i hi=>rfl,fun i hi=>rfl,fun i hi=>zF _⟩
 cok:=⟨fun i c hc _=>(h c (zX hc)).fw,fun i c hc cW=>absurd rfl cW⟩
 len:=hl
 ar i c hc:=(h c (zX hc)).ar
 kd i c hc:=(h c (zX hc)).kd
theorem vp:∀{cells:List aS},(∀c∈cells,c.arcs.length<=12)->tot cells<=12*cells.length
 |[],_=>by simp[tot]
 |c::l,h=>by have ih:=vp (cells:=l) fun x hx=>h x (List.mem_cons_of_mem _ hx);have:=h c (by simp);simp only[tot,zQ,List.sum_cons,zO]at ih ⊢;omega
theorem OC{k:Nat}{l:List aF}(h:j7 l):j7 (l.map (nB k)):=by
 unfold j7 at*;rw[List.pairwise_map];exact h.imp fun{a b} q=>q
variable{h:dW}
theorem AT.flat{f:GFS}(hf:AT h f){k:Nat}(hk:k+f.Nodes.length<=N){c:aS}(hc:c∈f.Nodes.map (mL k)):Flat N (h.Feats.length:Int) (h.Types.length:Int) c:=by
 obtain⟨x,hx,rfl⟩:=List.mem_map.1 hc;obtain⟨h1,h2⟩:=hf.nok x hx;refine⟨rfl,⟨OC h2.up,fun a ha=>?_⟩,h1,by simp[mL];exact hf.sm.arcs x hx⟩;obtain⟨b,hb,rfl⟩:=List.mem_map.1 ha;have:=h2.ok b hb;exact⟨this.1,this.2.1,by show 0<=b.To+(k:Int);omega,by show b.To+(k:Int)<_;omega⟩
theorem AT.to{f:GFS}(hf:AT h f):∀x∈f.Nodes,∀a∈x.Arcs,0<=a.To/\a.To<1000:=fun x hx a ha=>by
 have:=(hf.nok x hx).2.ok a ha;have:=hf.sm.nodes;omega
theorem z7m(a b:Nat):tT 0 a++tT a b=tT 0 (a+b):=by
 induction b with|zero=>simp[tT]|succ b ih=>rw[uo,<-zT,ih,<-Nat.add_assoc,uo];simp
theorem v4.init{cells:List aS}(hl:cells.length=N):v4 N cells (tT 0 N) (cells.map aS.kind) (cells.map aS.arcs) id (fun _=>0) where
 pok:=⟨fun i c hc _=>by have h1:=(zG.1 hc).1;rw[V1]at h1;rw[tT,List.getElem?_map,List.getElem?_range h1]at hc;have:=Option.some.inj hc;simp only[Nat.zero_add]at this;exact this.symm,fun i c _ cW=>absurd rfl cW⟩
 lp:=V1 0 N
 lt:=by simp[hl]
 la:=by simp[hl]
 same i c hc _:=by rw[List.getElem?_map,List.getElem?_map,hc];exact⟨rfl,rfl⟩
variable{n:Nat}
theorem sx{a9:Nat->Nat}{m i j:Nat}(h:a9 i=a9 j):fO a9 m n i=fO a9 m n j:=by unfold fO;rw[h]
theorem Co{mt:Int->Int->Option Int}{i j:Nat}:∀(k:Nat)(W:List (Int×Int))(c:List aS)(a9 d:Nat->Nat),a9 i=a9 j->(dU mt k W c a9 d).2.2.1 i=(dU mt k W c a9 d).2.2.1 j
 |0,W,c,a9,d,h=>h|k+1,[],c,a9,d,h=>h
 |k+1,p::W,c,a9,d,h=>by unfold dU;by_cases e:a9 p.1.toNat=a9 p.2.toNat;rw[if_pos e];exact Co k W c a9 d h;rw[if_neg e];rcases mt (celN c (a9 p.1.toNat)).kind (celN c (a9 p.2.toNat)).kind with _|t;exact h;exact Co k _ _ _ _ (sx h)
theorem pw{mt:Int->Int->Option Int}{N:Nat}{FB TB:Int}(pP:∀s t r,(0<=s/\s<TB)->(0<=t/\t<TB)->mt s t=some r->0<=r/\r<TB):∀(k:Nat)(W:List (Int×Int))(c:List aS)(a9 d:Nat->Nat)(D:Nat),Rnd N D FB TB W c a9 d->W.length+tot c<k->(dU mt k W c a9 d).1=true->∀p∈W,(dU mt k W c a9 d).2.2.1 p.1.toNat=(dU mt k W c a9 d).2.2.1 p.2.toNat
 |0,W,c,a9,d,D,h,hk,_=>by omega
 |k+1,[],c,a9,d,D,h,hk,_=>fun p hp=>by cases hp
 |k+1,p::W,c,a9,d,D,h,hk,hb=>by simp only[zO]at hk;have T:=h.two;unfold dU at hb ⊢;by_cases e:a9 p.1.toNat=a9 p.2.toNat;rw[if_pos e]at hb ⊢;intro q hq;rcases zI.1 hq with rfl |hq;exact Co k W c a9 d e;exact pw pP k W c a9 d D h.skip (by omega) hb q hq;rw[if_neg e]at hb ⊢;rcases hm:mt (celN c (a9 p.1.toNat)).kind (celN c (a9 p.2.toNat)).kind with _|t;rw[hm]at hb;cases hb;rw[hm]at hb;have ht:=pP _ _ _ T.km T.kn hm;have hT:=T.tot e t W;intro q hq;rcases zI.1 hq with rfl |hq;refine Co k _ _ _ _ ?_;simp[fO,e];exact pw pP k _ _ _ _ (D+1) (h.next e ht) (by omega) hb q (List.mem_append_right _ hq)
theorem Wu{ws:List Nat}(hh:pJ h ws)(hn:2000<=n):∀s t r,(0<=s/\s<(ws.length:Int))->(0<=t/\t<(ws.length:Int))->cX n h s t=some r->0<=r/\r<(ws.length:Int):=fun s t r hs ht hr=>by
 rcases Io hh hs ht hn with⟨h1,_⟩|⟨q,h1,_,h3,_⟩;rw[h1]at hr;cases hr;rw[h1]at hr;have:=Option.some.inj hr;subst this;exact h3
theorem Ab{a b:Nat}(EX:b&&&a=a)(ha:a<4096)(hb:b<4096)(hl:(bl b).length<=(bl a).length):a=b:=by
 have hs:∀i,a.testBit i=true->b.testBit i=true:=fun i h=>by have:=congrArg (fun z=>z.testBit i) EX;simp only[Nat.testBit_and,h,Bool.and_true]at this;exact this
 have e1:(List.range 64).filter (fun i=>a.testBit i)=((List.range 64).filter fun i=>b.testBit i).filter fun i=>a.testBit i:=by
  rw[List.filter_filter];refine List.filter_congr fun i _=>?_;rcases h:a.testBit i with _|_
  simp;simp[hs i h]
 simp only[bl,yA]at hl;rw[e1]at hl;have e2:((List.range 64).filter fun i=>b.testBit i).filter (fun i=>a.testBit i)=(List.range 64).filter fun i=>b.testBit i:=(List.filter_sublist).eq_of_length_le hl;refine Nat.eq_of_testBit_eq fun i=>?_;by_cases hi:i<64;cases wV:b.testBit i with
 |false=>rcases hai:a.testBit i with _|_;rfl;rw[hs i hai]at wV;cases wV
 |true=>have:i∈(List.range 64).filter fun i=>b.testBit i:=List.mem_filter.2 ⟨List.mem_range.2 hi,wV⟩;rw[<-e2]at this;exact(List.mem_filter.1 this).2
 rw[Nat.testBit_lt_two_pow (Nat.lt_of_lt_of_le ha (Nat.pow_le_pow_right (n:=2) (by omega) (show 12<=i by omega))),Nat.testBit_lt_two_pow (Nat.lt_of_lt_of_le hb (Nat.pow_le_pow_right (n:=2) (by omega) (show 12<=i by omega)))]
theorem kr.hr{d:List bG}(hh:kr d n h):∃ws,pJ h ws:=by
 obtain⟨l,f,h1,h2,h3⟩:=hh.ex;obtain⟨nm,c0,ws,g1,g2,g3,g4,g5⟩:=h1.cok.ws;have hc:=h1.cok.cod;have e1:(l.map fun x=>cw x.Code).map bt=l.map dG.Code:=by rw[List.map_map];apply List.map_congr_left;intro x hx;obtain⟨w,hw,_⟩:=hc x hx;simp[hw,G0]
 have e2:(l.map fun x=>cw x.Code).Perm ws:=by
  have:=g3.perm.map cw;rw[List.map_map,List.map_map]at this;have e3:ws.map (cw ∘ bt)=ws:=by have:(cw ∘ bt)=id:=funext fun w=>G0 w;rw[this,List.map_id]
  rw[e3]at this;exact this
 refine⟨l.map fun x=>cw x.Code,⟨by rw[h2,e1],fun w hw=>?_,e2.nodup_iff.2 g1.nod,fun a ha b hb cW=>?_,?_,?_,?_,?_⟩⟩;have:=g1.ok w (e2.mem_iff.1 hw);exact⟨this.2.1,by omega⟩;exact e2.mem_iff.2 (g2 a (e2.mem_iff.1 ha) b (e2.mem_iff.1 hb) cW);rw[e2.length_eq];omega;rw[e2.length_eq];omega;have:=congrArg List.length h3;rw[yA]at this;have:=h1.len;omega;intro w hw;obtain⟨y,hy,rfl⟩:=List.mem_map.1 hw;obtain⟨w0,⟨x0,sY,e0⟩,MU⟩:=h1.cok.top;have Pw:=g3.srt;rcases hl:l with _|⟨z,l'⟩;rw[hl]at sY;cases sY;simp only[zQ,List.getElem?_cons_zero,Option.getD_some];have hzm:z∈l:=by rw[hl];simp
 obtain⟨wz,ez,lz,_⟩:=hc z hzm;obtain⟨B?,NU,l0,_⟩:=hc x0 sY;have e00:w0=B?:=by rw[<-G0 w0,<-G0 B?,<-e0,<-NU]
 have sG:cnt x0<=cnt z:=by rw[hl]at sY Pw;rcases zI.1 sY with rfl |h;exact zF _;exact(List.pairwise_cons.1 Pw).1 x0 h
 have hz:=MU z hzm;rw[ez,G0]at hz;have:wz=w0:=Ab hz lz (by rw[e00];exact l0) (by
  have c1:cnt x0=(bl w0).length:=by rw[cnt,e0,G0]
  have c2:cnt z=(bl wz).length:=by rw[cnt,ez,G0]
  omega)
 rw[ez,G0,this];exact MU y (by rw[hl]at hy;rw[hl];exact hy)
def wd(t:cV):Nat:=cw t.Code
def xl:List Nat->Bool
 |[]=>true|x::l=>!(l.any fun y=>Nat.beq x y)&&xl l
def okB(h:dW):Bool :=
 (h.Types.all fun t=>match t.Code with |[z]=>decide (0<z)&&decide (z<4611686018427387904)|_=>false) &&
 xl (h.Types.map wd)&&((h.Types.map wd).all fun a=>(h.Types.map wd).all fun b=>Nat.beq (a&&&b) 0||(h.Types.map wd).any fun c=>Nat.beq (a&&&b) c) &&
 Nat.ble h.Types.length 1000&&Nat.ble 1 h.Types.length&&Nat.ble h.Feats.length 1000&&((h.Types.map wd).all fun w=>Nat.beq ((((h.Types.map wd)[0]?).getD 0)&&&w) w)
theorem i_:∀{l:List Nat},xl l=true->l.Nodup
 |[],_=>List.nodup_nil|x::l,h=>by simp only[xl,Bool.and_eq_true,Bool.not_eq_true',List.any_eq_false]at h;refine List.nodup_cons.2 ⟨fun hx=>?_,i_ h.2⟩;have:=h.1 x hx;simp at this
theorem WW(hb:okB h=true):∃ws,pJ h ws:=by
 simp only[okB,Bool.and_eq_true,List.all_eq_true,Nat.ble_eq]at hb;obtain⟨⟨⟨⟨⟨⟨h1,h2⟩,h3⟩,h4⟩,h5⟩,h6⟩,h7⟩:=hb;have Rm:∀t∈h.Types,t.Code=bt (wd t)/\wd t≠0/\wd t<4611686018427387904:=fun t ht=>by
  have:=h1 t ht;unfold wd;rcases hc:t.Code with _|⟨z,l⟩;rw[hc]at this;simp at this;cases l with
  |cons y l=>rw[hc]at this;simp at this|nil=>rw[hc]at this;simp at this;have e:cw [z]=z.toNat:=rfl;rw[e];exact⟨by rw[rY (by omega)];congr 1;omega,by omega,by omega⟩
 refine⟨h.Types.map wd,⟨?_,fun w hw=>?_,i_ h2,fun a ha b hb cW=>?_,by rw[yA];exact h4,by rw[yA];exact h5,h6,fun w hw=>by have:=h7 w hw;rw[Nat.beq_eq]at this;exact this⟩⟩;rw[List.map_map];exact List.map_congr_left fun t ht=>(Rm t ht).1;obtain⟨t,ht,rfl⟩:=List.mem_map.1 hw;exact(Rm t ht).2;have:=h3 a ha b hb;rw[Bool.or_eq_true,Nat.beq_eq]at this;rcases this with h |h
 exact absurd h cW;obtain⟨c,hc,e⟩:=List.any_eq_true.1 h;rw[Nat.beq_eq]at e;rw[e];exact hc
theorem preB(m:Nat):a8 (Me (m+200)) (fun d=>a8 (LY (m+200) d) fun r=>some (okB r.1))=some true:=by kernel_rfl
theorem Tu(m:Nat):Ec (m+200)=some true:=by kernel_rfl
theorem ni(h:200<=n):Ec n=some true:=by
 have:=Tu (n-200)
 rwa [show n-200+200=n by omega]at this
theorem WQ(h:200<=n):∃g ws,Eb n=some g/\pJ g ws:=by
 have:=preB (n-200);rw[show n-200+200=n by omega]at this;rcases e1:Me n with _|d;rw[e1]at this;cases this;rw[e1,aO]at this;rcases e2:LY n d with _|r;rw[e2]at this;cases this;rw[e2,aO]at this;obtain⟨ws,hw⟩:=WW (Option.some.inj this);exact⟨⟨r.1.Types,r.1.Feats⟩,ws,by simp only[Eb,e1,e2,aO],hw⟩
theorem z70(d:List bG)(hn:5000<=n):∃g ws,Nb n d=some g/\pJ g ws:=by
 obtain⟨g,ws,p1,p2⟩:=WQ (n:=n) (by omega);unfold Nb;by_cases hd:(d.length:Int)<=12;obtain⟨h,e,c1,c2,c3⟩:=qxi (d:=d) (by omega) hn;simp only[hd,yC,zC,c1,aO];by_cases he:e=0;subst he;obtain⟨ws',hw⟩:=(c2 rfl).hr;exact⟨⟨h.Types,h.Feats⟩,ws',rfl,hw⟩;have:(e==0)=false:=by simpa using he
 simp only[this,zD];exact⟨g,ws,p1,p2⟩;simp only[hd,yB,zD];exact⟨g,ws,p1,p2⟩
def rN(a9:Nat->Nat)(a:aF):aF:=⟨a.Feat,rI a9 a.To⟩
def Eu(a9:Nat->Nat)(c:aS):aT:=⟨c.kind,c.arcs.map (rN a9)⟩
def cG(cells:List aS)(a9:Nat->Nat):GFS:=⟨cells.map (Eu a9)⟩
variable{a9:Nat->Nat}
theorem TF{l:List aF}(h:j7 l):j7 (l.map (rN a9)):=by
 unfold j7 at*;rw[List.pairwise_map];exact h.imp fun{a b} q=>q
theorem iP.gok{N D:Nat}{FB TB:Int}{cells:List aS}{d:Nat->Nat}(h:iP N D FB TB cells a9 d):AB (cG cells a9):=fun x hx=>by
 obtain⟨c,hc,rfl⟩:=List.mem_map.1 hx;obtain⟨i,hi⟩:=List.getElem?_of_mem hc;have ha:=h.ar i c hi;refine⟨(h.kd i c hi).1,(TF ha.up).dis,fun a hm=>?_⟩;obtain⟨b,hb,rfl⟩:=List.mem_map.1 hm;have h1:=ha.ok b hb;have h2:=h.rI (v:=b.To) h1.2.2;simp only[cG,yA,h.len];exact⟨h1.1,h2⟩
theorem z0d{f:GFS}{o t:List Int}{u:Int}(hu:∀a∈(nd f u).Arcs,a.To∈o):lY f (o++t) u=lY f o u:=by
 simp only[lY,aT.mk.injEq,true_and];refine List.map_congr_left fun a ha=>?_;simp only[mK,List.idxOf_append,hu a (EJ.1 ha),if_true]
theorem iP.nd{N D:Nat}{FB TB:Int}{cells:List aS}{a9 d:Nat->Nat}(h:iP N D FB TB cells a9 d){v:Int}(hv:0<=v/\v<(N:Int)):Go.Proofs.nd (cG cells a9) v=Eu a9 (iE cells v)/\lF (cG cells a9) v=(iE cells v).arcs.map (rN a9):=by
 have hc:=h.cel hv;have e:Go.Proofs.nd (cG cells a9) v=Eu a9 (iE cells v):=by simp only[Go.Proofs.nd,cG,List.getElem?_map,hc,zM,Option.getD_some]
 exact⟨e,by rw[lF,e];exact a? (TF (h.ar _ _ hc).up)⟩
theorem z1l(a b:List aT)(k:Int)(l:List aF):UM (a++[⟨k,[]⟩]++b) a.length l=a++[⟨k,l⟩]++b:=by
 simp[UM]
theorem R_{N D B:Nat}{FB TB:Int}{cells:List aS}{a9 d:Nat->Nat}(h:iP N D FB TB cells a9 d)(hB:tot cells<=B):∀(k:Nat)(s:List Int×List aT)(v:Int),Sn N B s->(0<=v/\v<(N:Int))->N-s.1.length<k->rI a9 v ∉ s.1->
  vis cells a9 k s v=((s.1.length:Int),dfs (cG cells a9) k s.1 (rI a9 v),s.2++((dfs (cG cells a9) k s.1 (rI a9 v)).drop s.1.length).map (lY (cG cells a9) (dfs (cG cells a9) k s.1 (rI a9 v))))
 |0,s,v,hs,hv,hk,_=>by omega
 |k+1,s,v,hs,hv,hk,hm=>by
  have hg:=h.gok;have hr:=h.rI hv;have uN:=hs.snoc hr hm (iE cells (rI a9 v)).kind;have hc:=h.cel hr;have YM:=h.ar _ _ hc;obtain⟨n1,n2⟩:=h.nd hr;have Rz:(cG cells a9).Nodes.length=N:=by simp[cG,h.len]
  have A4:=uN.le;simp only[zU,zO,zS]at A4;have key:∀(l:List aF),(∀a∈l,0<=a.To/\a.To<(N:Int))->∀(s':List Int×List aT)(aY:List aF),Sn N B s'->s.1.length+1<=s'.1.length->
    ∃t,(l.map (rN a9)).foldl (lV (dfs (cG cells a9) k)) s'.1=s'.1++t/\(∀a∈l,rI a9 a.To∈s'.1++t)/\(∀u∈t,∀a∈(Go.Proofs.nd (cG cells a9) u).Arcs,a.To∈s'.1++t)/\
     nL (vis cells a9 k) l s' aY=(aY++l.map (fun a=>mK (s'.1++t) (rN a9 a)),s'.1++t,s'.2++t.map (lY (cG cells a9) (s'.1++t))):=by
   intro l;induction l with
   |nil=>intro _ s' aY h1 h2;exact⟨[],by simp,by simp,by simp,by simp[nL]⟩|cons a l ih=>
    intro hl s' aY h1 h2;have ha:=hl a (by simp);have hra:=h.rI ha;rw[nL];by_cases i9:rI a9 a.To∈s'.1;have e1:vis cells a9 k s' a.To=((s'.1.idxOf (rI a9 a.To):Int),s'):=by obtain⟨k',rfl⟩:=Nat.exists_eq_add_of_le' (show 1<=k by have:=h1.le;omega);rw[vis,if_pos i9]
    rw[e1];obtain⟨t,q1,q2,q3,q4⟩:=ih (fun b hb=>hl b (List.mem_cons_of_mem _ hb)) s' (aY++[⟨a.Feat,(s'.1.idxOf (rI a9 a.To):Int)⟩]) h1 h2;refine⟨t,?_,?_,q3,?_⟩;rw[zQ,List.foldl_cons];have:lV (dfs (cG cells a9) k) s'.1 (rN a9 a)=s'.1:=by rw[lV,if_pos (by exact i9)]
    rw[this,q1];intro b hb;rcases zI.1 hb with rfl |hb;exact List.mem_append_left _ i9;exact q2 b hb;rw[q4];have:mK (s'.1++t) (rN a9 a)=⟨a.Feat,(s'.1.idxOf (rI a9 a.To):Int)⟩:=by simp only[mK,rN,List.idxOf_append,i9,if_true]
    rw[zQ,this];simp;have e1:=R_ h hB k s' a.To h1 ha (by omega) i9;have Rw:Seen (cG cells a9) s'.1:=⟨h1.nd,fun u hu=>by have:=h1.ing u hu;rw[qH,Rz];exact this⟩;obtain⟨d1,⟨t1,d2⟩,d3,d4⟩:=Wd hg k s'.1 (rI a9 a.To) Rw (by rw[qH,Rz];exact hra) i9 (by rw[Rz];omega);obtain⟨v1,v2,v3⟩:=Ik h hB k s' a.To h1 ha (by omega);rw[e1]at v1 v2 ⊢;simp only at v1 v2 ⊢;rw[d2]at v1 v2 ⊢;have Fp:∀u∈rI a9 a.To::t1,∀b∈(Go.Proofs.nd (cG cells a9) u).Arcs,b.To∈s'.1++rI a9 a.To::t1:=fun u hu b hb=>by by_cases EV:u∈s'.1;exfalso;have:=d1.nd;rw[d2,List.nodup_append]at this;exact this.2.2 u EV u hu rfl;have:=d3 u (by rw[d2];exact List.mem_append_right _ hu) EV b hb;rw[d2]at this;exact this
    rw[List.drop_left]at v1 ⊢;obtain⟨t,q1,q2,q3,q4⟩:=ih (fun b hb=>hl b (List.mem_cons_of_mem _ hb)) _ (aY++[⟨a.Feat,(s'.1.length:Int)⟩]) v1 (by simp only[zU,zO]at v2 ⊢;omega);simp only at q1 q2 q3 q4;refine⟨rI a9 a.To::t1++t,?_,?_,?_,?_⟩;rw[zQ,List.foldl_cons];have:lV (dfs (cG cells a9) k) s'.1 (rN a9 a)=s'.1++rI a9 a.To::t1:=by rw[lV,if_neg (by exact i9)];exact d2
    rw[this,q1];simp;intro b hb;rcases zI.1 hb with rfl |hb;simp;have:=q2 b hb;simpa using this;intro u hu b hb;rcases yD.1 hu with hu |hu;have:=Fp u hu b hb;rw[zT]at*;simp only[yD]at this ⊢;rcases this with h |h;exact .inl h;exact .inr (.inl h);have:=q3 u hu b hb;simpa using this;rw[q4];have e2:s'.1++(rI a9 a.To::t1++t)=s'.1++rI a9 a.To::t1++t:=by simp
    have e3:mK (s'.1++rI a9 a.To::t1++t) (rN a9 a)=⟨a.Feat,(s'.1.length:Int)⟩:=by simp only[mK,rN,List.idxOf_append,yD,i9,zI,true_or,or_true,if_true,if_false,List.idxOf_cons_self];simp
    have e4:(rI a9 a.To::t1).map (lY (cG cells a9) (s'.1++rI a9 a.To::t1++t))=(rI a9 a.To::t1).map (lY (cG cells a9) (s'.1++rI a9 a.To::t1)):=List.map_congr_left fun u hu=>z0d (Fp u hu);rw[e2];refine Prod.ext ?_ (Prod.ext rfl ?_);show aY++[_]++_=aY++List.map _ (a::l);rw[zQ,e3,zT];rfl;show s'.2++_++_=s'.2++List.map _ (rI a9 a.To::t1++t);rw[List.map_append,e4,zT]
  obtain⟨t,q1,q2,q3,q4⟩:=key _ (fun a ha=>(YM.ok a ha).2.2) (s.1++[rI a9 v],s.2++[⟨(iE cells (rI a9 v)).kind,[]⟩]) [] uN (by simp);simp only at q1 q2 q3 q4;have hd:dfs (cG cells a9) (k+1) s.1 (rI a9 v)=s.1++rI a9 v::t:=by rw[dfs,n2,q1];simp
  rw[hd,List.drop_left,vis,if_neg hm];simp only[q4];have aU:=hs.len;rw[<-aU,z1l,List.nil_append];have e1:s.1++rI a9 v::t=s.1++[rI a9 v]++t:=by simp
  rw[e1];have e2:lY (cG cells a9) (s.1++[rI a9 v]++t) (rI a9 v)=⟨(iE cells (rI a9 v)).kind,(iE cells (rI a9 v)).arcs.map fun a=>mK (s.1++[rI a9 v]++t) (rN a9 a)⟩:=by rw[lY,n1,n2,List.map_map];rfl
  rw[zQ,e2];simp
theorem qwl{N D:Nat}{FB TB:Int}{cells:List aS}{d:Nat->Nat}(h:iP N D FB TB cells a9 d){n:Nat}(hn:N<n){v:Int}(hv:0<=v/\v<(N:Int)):OL n cells a9 v=gW (cG cells a9) (rI a9 v):=by
 have Rz:(cG cells a9).Nodes.length=N:=by simp[cG,h.len]
 have hr:=h.rI hv;have:=R_ h (zF _) n ([],[]) v (Sn.nil N _) hv (by simp;omega) (by simp);obtain⟨o1,o2⟩:=PC h.gok (r:=rI a9 v) (by rw[qH,Rz];exact hr);rw[OL,this];simp only[zS,List.drop_zero,List.nil_append,o2 n (by omega),gW]
theorem T_:∀{a b:List aF},j7 a->j7 b->(∀x,x∈a↔x∈b)->a=b
 |[],[],_,_,_=>rfl|[],y::b,_,_,h=>by have:=(h y).2 (by simp);cases this
 |x::a,[],_,_,h=>by have:=(h x).1 (by simp);cases this
 |x::a,y::b,ha,hb,h=>by
  have rC:=List.pairwise_cons.1 ha;have cQ:=List.pairwise_cons.1 hb;have e:x=y:=by rcases zI.1 ((h x).1 (by simp))with e |e;exact e;rcases zI.1 ((h y).2 (by simp))with e' |e';exact e'.symm;have:=rC.1 y e';have:=cQ.1 x e;omega
  subst e;rw[T_ rC.2 cQ.2 fun z=>⟨fun hz=>by
   rcases zI.1 ((h z).1 (List.mem_cons_of_mem _ hz))with e |e;subst e;have:=rC.1 z hz;omega;exact e,fun hz=>by
   rcases zI.1 ((h z).2 (List.mem_cons_of_mem _ hz))with e |e;subst e;have:=cQ.1 z hz;omega;exact e⟩]
structure QG(ws:List Nat)(L:List aT)(r:Nat->Nat)(g:GFS):Prop where
 len:g.Nodes.length=L.length
 rt:∀i,i<L.length->r i<L.length/\r (r i)=r i
 kd:∀i x,g.Nodes[i]? = some x->r i=i->(0<=x.Typex/\x.Typex<(ws.length:Int))/\∀k,(kG ws x.Typex).testBit k=true↔∀j c,L[j]? = some c->r j=i->(kG ws c.Typex).testBit k=true
 ds:∀i x,g.Nodes[i]? = some x->r i=i->sL x.Arcs
 cov:∀j c a,L[j]? = some c->a∈c.Arcs->∃x b,g.Nodes[r j]? = some x/\b∈x.Arcs/\b.Feat=a.Feat/\b.To=(r a.To.toNat:Int)
 snd:∀i x b,g.Nodes[i]? = some x->r i=i->b∈x.Arcs->∃j c a,L[j]? = some c/\r j=i/\a∈c.Arcs/\b.Feat=a.Feat/\b.To=(r a.To.toNat:Int)
variable{ws:List Nat}
theorem z6o(hn:ws.Nodup){s t:Int}(hs:0<=s/\s<(ws.length:Int))(ht:0<=t/\t<(ws.length:Int))(h:kG ws s=kG ws t):s=t:=by
 have h1:=Iy hs;have h2:=Iy ht;rw[<-h]at h2;obtain⟨a1,b1⟩:=zG.1 h1;obtain⟨a2,b2⟩:=zG.1 h2;have:=(List.getElem_inj (h₀:=a1) (h₁:=a2) hn).1 (by rw[b1,b2]);omega
def InR(N:Nat)(r:Nat->Nat)(v:Int):Prop:=∃i:Nat,v=(i:Int)/\i<N/\r i=i
theorem QG.sim(hn:ws.Nodup){L:List aT}(hL:∀(j:Nat)(c:aT)(a:aF),L[j]? = some c->a∈c.Arcs->a.To.toNat<L.length){r r':Nat->Nat}{g g':GFS}(h:QG ws L r g)(h':QG ws L r' g')(he:∀i j,i<L.length->j<L.length->(r i=r j↔r' i=r' j)):
  oY g g' (fun v=>(r' v.toNat:Int)) (InR L.length r):=by
 have node:∀{i:Nat},i<L.length->∃x,g.Nodes[i]? = some x/\nd g (i:Int)=x:=fun{i} hi=>by
  have:i<g.Nodes.length:=by rw[h.len];exact hi
  exact⟨_,List.getElem?_eq_getElem this,by simp[nd,this]⟩
 have node':∀{i:Nat},i<L.length->∃x,g'.Nodes[i]? = some x/\nd g' (i:Int)=x:=fun{i} hi=>by
  have:i<g'.Nodes.length:=by rw[h'.len];exact hi
  exact⟨_,List.getElem?_eq_getElem this,by simp[nd,this]⟩
 have memb:∀{j:Nat}{c:aT},L[j]? = some c->j<L.length:=fun hj=>(zG.1 hj).1;have mem_iff:∀{i j:Nat},i<L.length->j<L.length->r i=i->(r j=i↔r' j=r' i):=fun{i j} hi hj hr=>by rw[<-he j i hj hi,hr]
 refine⟨?_,?_,?_,?_⟩;rintro v ⟨i,rfl,hi,hr⟩ a ha;rw[EJ]at ha;obtain⟨x,hx,e⟩:=node hi;rw[e]at ha;obtain⟨j,c,b,q1,q2,q3,q4,q5⟩:=h.snd i x a hx hr ha;have:=h.rt _ (hL j c b q1 q3);exact⟨r b.To.toNat,q5,this.1,this.2⟩;rintro u v ⟨i,rfl,hi,hr⟩ ⟨j,rfl,hj,hs⟩ e;simp only[zZ]at e;have:=(he i j hi hj).2 (by omega);omega;rintro v ⟨i,rfl,hi,hr⟩;obtain⟨x,hx,e⟩:=node hi;have lP:=h'.rt i hi;obtain⟨y,hy,e'⟩:=node' lP.1;simp only[zZ];rw[e,e'];obtain⟨k1,k2⟩:=h.kd i x hx hr;obtain⟨k3,k4⟩:=h'.kd _ y hy lP.2;refine z6o hn k3 k1 (Nat.eq_of_testBit_eq fun k=>?_);rw[Bool.eq_iff_iff,k2,k4];exact⟨fun q j c hj R0=>q j c hj ((mem_iff hi (memb hj) hr).1 R0),fun q j c hj R0=>q j c hj ((mem_iff hi (memb hj) hr).2 R0)⟩;rintro v ⟨i,rfl,hi,hr⟩;obtain⟨x,hx,e⟩:=node hi;have lP:=h'.rt i hi;obtain⟨y,hy,e'⟩:=node' lP.1;simp only[zZ];have up1:j7 (lF g' ((r' i:Nat):Int)):=by rw[lF,e'];exact Bv (h'.ds _ y hy lP.2)
 have up2:j7 ((lF g (i:Int)).map fun a=>(⟨a.Feat,(r' a.To.toNat:Int)⟩:aF)):=by
  have:j7 (lF g (i:Int)):=by rw[lF,e];exact Bv (h.ds _ x hx hr)
  unfold j7 at*;rw[List.pairwise_map];exact this.imp fun{a b} q=>q
 refine T_ up1 up2 fun b=>?_;rw[EJ,e',List.mem_map];constructor;intro hb;obtain⟨j,c,a,q1,q2,q3,q4,q5⟩:=h'.snd _ y b hy lP.2 hb;have Fl:=(mem_iff hi (memb q1) hr).2 q2;obtain⟨x2,b2,p1,p2,p3,p4⟩:=h.cov j c a q1 q3;rw[Fl,hx]at p1;cases p1;refine⟨b2,by rw[EJ,e];exact p2,?_⟩;have ht:=hL j c a q1 q3;have h1:=h.rt _ ht;have:r' (r a.To.toNat)=r' a.To.toNat:=(he _ _ h1.1 ht).1 h1.2;rw[p4,zZ,this,<-q5,p3,<-q4];rintro⟨b2,sH,rfl⟩;rw[EJ,e]at sH;obtain⟨j,c,a,q1,q2,q3,q4,q5⟩:=h.snd i x b2 hx hr sH;have Fl:=(mem_iff hi (memb q1) hr).1 q2;obtain⟨y2,b3,p1,p2,p3,p4⟩:=h'.cov j c a q1 q3;rw[Fl,hy]at p1;cases p1;have ht:=hL j c a q1 q3;have h1:=h.rt _ ht;have e4:r' (r a.To.toNat)=r' a.To.toNat:=(he _ _ h1.1 ht).1 h1.2;have:(⟨b2.Feat,(r' b2.To.toNat:Int)⟩:aF)=b3:=by cases b3;simp only[aF.mk.injEq];simp only at p3 p4;rw[q5,zZ,e4];exact⟨by rw[q4,p3],p4.symm⟩
 rw[this];exact p2
theorem QG.read(hn:ws.Nodup){L:List aT}(hL:∀(j:Nat)(c:aT)(a:aF),L[j]? = some c->a∈c.Arcs->a.To.toNat<L.length){r r':Nat->Nat}{g g':GFS}(h:QG ws L r g)(h':QG ws L r' g')(hg:AB g)(N7:AB g')(he:∀i j,i<L.length->j<L.length->(r i=r j↔r' i=r' j)){i:Nat}(hi:i<L.length):
  gW g' ((r' i:Nat):Int)=gW g ((r i:Nat):Int):=by
 have h1:=h.rt i hi;have h2:=h'.rt i hi;have e:r' (r i)=r' i:=(he _ _ h1.1 hi).1 h1.2;have:=(h.sim hn hL h' he).canon hg N7 (r:=((r i:Nat):Int)) ⟨by omega,by rw[h.len];omega⟩ ⟨r i,rfl,h1.1,h1.2⟩ (by simp only[zZ,e];exact⟨by omega,by rw[h'.len];omega⟩);simp only[zZ,e]at this;exact this.2
end Go.Proofs
