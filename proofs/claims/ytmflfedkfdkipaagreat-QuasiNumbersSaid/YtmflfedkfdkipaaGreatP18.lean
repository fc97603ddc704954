import Derived.Test.YtmflfedkfdkipaaGreatP17
set_option linter.all false
namespace Go.Proofs
open Go Go.Rx Go.Vx Go.Shelf Go.Sort
set_option maxRecDepth 10000
theorem xe{N:Nat}:∀{l:List bE}{s s':List Int},(∀x,x∈s↔x∈s')->tD N s l=tD N s' l
 |[],s,s',_=>rfl|a::l,s,s',h=>by simp only[tD];rw[xe (l:=l) (s:=a.Feat::s) (s':=a.Feat::s') fun x=>by simp only[zI,h x]];by_cases h1:a.Feat∈s;simp only[h1,(h _).1 h1,if_true];simp only[h1,mt (h _).2 h1,if_false]
theorem Yj{l:List bE}(hl:l.length<=1000000){i:Nat}{x:bE}(hx:l[i]? = some x)(hi:i<l.length){rc:Int->Option Int}:∀(m k:Nat),i-k<m->k<=i->
  RO l i rc m k=if x.Feat∈((l.take i).drop k).map bE.Feat then some 4 else rc (IntKind.i64.wrap ((i:Int)+1))
 |0,k,hm,_=>by omega
 |m+1,k,hm,hk=>by
  unfold RO;by_cases hlt:k<i;obtain⟨y,hy,_⟩:=fB (l:=l) (i:=k) (by omega);have hy':(l.take i)[k]? = some y:=by rw[List.getElem?_take_of_lt hlt];exact hy
  have hd:decide ((k:Int)<(i:Int))=true:=kB hlt;have hw:IntKind.i64.wrap ((k:Int)+1)=((k+1:Nat):Int):=IU (by omega) (by omega);simp only[hd,zC,cP,hy,hx,aM,aR hy',zQ,zI,hw];by_cases e:y.Feat=x.Feat;simp[e];have e2:(y.Feat==x.Feat)=false:=by simpa using e
  have e3:¬ x.Feat=y.Feat:=fun h=>e h.symm;simp only[e2,zD,e3,false_or];exact Yj hl hx hi m (k+1) (by omega) (by omega);have hd:decide ((k:Int)<(i:Int))=false:=kL hlt;have:(l.take i).drop k=[]:=List.drop_eq_nil_of_le (by simp;omega);simp only[hd,zD,Fv,this,List.map_nil,List.not_mem_nil,if_false]
theorem Yk{l:List bE}{N n:Nat}(hl:l.length<=1000000)(hn:l.length<n):∀(m i:Nat),l.length-i<m->i<=l.length->DE l N n m i=some (tD N ((l.take i).map bE.Feat) (l.drop i))
 |0,i,hm,_=>by omega
 |m+1,i,hm,hi=>by
  unfold DE;by_cases hlt:i<l.length;obtain⟨a,ha,_⟩:=fB hlt;have h2:=Yj hl ha hlt (rc:=DE l N n m) n 0 (by omega) (by omega);rw[zV,List.drop_zero]at h2;simp only[kB hlt,zC,cP,ha,aM,aR ha,tD];by_cases h1:a.Feat<0;simp[h1,aM];by_cases h3:a.To<0;simp[h1,h3,aM];by_cases h4:a.To>=(N:Int);simp[h1,h3,h4,aM];simp only[h1,h3,h4,yB,zD,aM,or_self,if_false,h2,mH hlt (show l.length<=9223372036854775807 by omega)];rw[Yk hl hn m (i+1) (by omega) (by omega),gQ ha];by_cases h5:a.Feat∈(l.take i).map bE.Feat;simp only[h5,if_true];simp only[h5,if_false];congr 1;exact xe fun x=>by simp[or_comm]
  simp only[kL hlt,zD,Fw,bP hlt,tD]
theorem Yf{f:GFS}{k:Nat}(hf:cA f k)(hk:k<=1000000){n:Nat}(hn:k<n):∀(m i:Nat),f.Nodes.length-i<m->i<=f.Nodes.length->RN f n m i=some (ET f.Nodes.length (f.Nodes.drop i))
 |0,i,hm,_=>by omega
 |m+1,i,hm,hi=>by
  have hnl:=hf.nodes;unfold RN;by_cases hlt:i<f.Nodes.length;obtain⟨x,hx,hxm⟩:=fB hlt;have hal:=hf.arcs x hxm;have h2:=Yk (l:=x.Arcs) (N:=f.Nodes.length) (n:=n) (by omega) (by omega) n 0 (by omega) (by omega);rw[zV,List.drop_zero,List.take_zero,List.map_nil]at h2;simp only[kB hlt,zC,cP,hx,aM,aR hx,ET,uE,Es,h2,mH hlt (show f.Nodes.length<=9223372036854775807 by omega)];by_cases h1:x.Typex<0;simp[h1];simp only[h1,yB,zD,if_false];by_cases h3:tD f.Nodes.length [] x.Arcs=0;simp only[h3,bne_self_eq_false,zD,ne_eq,not_true,if_false];exact Yf hf hk hn m (i+1) (by omega) (by omega);have hb:(tD f.Nodes.length [] x.Arcs != 0)=true:=by simpa using h3
  simp only[hb,zC,h3,ne_eq,not_false_eq_true,if_true];simp only[kL hlt,zD,Fu,bP hlt,ET]
variable{f:GFS}
variable{k:Nat}
variable{n:Nat}
theorem ly(hf:cA f k)(hk:k<=1000000)(hn:k<n):W0 n f=some (wC f):=by
 have hnl:=hf.nodes;unfold W0 wC;by_cases h0:f.Nodes.length=0;simp[h0];have e0:((f.Nodes.length:Int)==0)=false:=by simp;intro h;simp[h]at h0
 simp only[e0,zD,h0,if_false];by_cases h1:f.Nodes.length>4096;have:(f.Nodes.length:Int)>4096:=by omega
 simp[h1,this];have:¬ (f.Nodes.length:Int)>4096:=by omega
 simp only[h1,this,yB,zD,if_false];have h:=Yf hf hk hn n 0 (by omega) (by omega);rw[zV,List.drop_zero]at h;exact h
theorem Vq{l:List bE}{i:Nat}{x:bE}(hx:l[i]? = some x){out:List bE}(hol:out.length<=1000000)(hup:lT out){rc:Int->List bE->Option (List bE)}:∀(m p:Nat),p<m->p<=out.length->(∀a∈out.drop p,x.Feat<a.Feat)->
  ∃q,q<=out.length/\S2 l i out rc m p=S3 l i out rc (q:Int)/\(∀a∈out.drop q,x.Feat<a.Feat)/\(∀a∈out.take q,a.Feat<=x.Feat)
 |0,p,hm,_,_=>by omega
 |m+1,p,hm,hp,hd=>by
  unfold S2;cases p with
  |zero=>
   have:¬ ((0:Nat):Int)>0:=by omega
   simp only[this,yB,zD,aM];exact⟨0,by omega,rfl,hd,by simp⟩
  |succ p=>
   have h0:((p+1:Nat):Int)>0:=by omega
   have hw:IntKind.i64.wrap (((p+1:Nat):Int)-1)=(p:Int):=IU (by omega) (by omega);obtain⟨y,hy,_⟩:=fB (l:=out) (i:=p) (by omega);simp only[h0,yC,zC,hw,cP,hy,hx,aM];by_cases e:y.Feat>x.Feat;simp only[e,yC,zC];refine Vq hx hol hup m p (by omega) (by omega) fun a ha=>?_;rw[aR hy]at ha;rcases zI.1 ha with rfl |ha
   omega;exact hd a ha;simp only[e,yB,zD];refine⟨p+1,hp,rfl,hd,fun a ha=>?_⟩;obtain⟨j,hj,rfl⟩:=List.mem_iff_getElem.1 ha;simp only[List.length_take]at hj;rw[List.getElem_take];obtain⟨hp',ey⟩:=zG.1 hy;by_cases ej:j=p;subst ej;rw[ey];omega;have:=List.pairwise_iff_getElem.1 hup j p (by omega) hp' (by omega);rw[ey]at this;omega
theorem MX{l:List bE}{i:Nat}{x:bE}(hx:l[i]? = some x){out:List bE}(hol:out.length<=1000000){rc:Int->List bE->Option (List bE)}{q:Nat}(hq:q<=out.length):
  S3 l i out rc (q:Int)=rc (IntKind.i64.wrap ((i:Int)+1)) (out.take q++x::out.drop q):=by
 have e1:(out.drop 0).take ((q:Int)).toNat=out.take q:=by rw[List.drop_zero,zZ]
 have e2:(out.drop (0+((q:Int)).toNat)).take (out.length-((q:Int)).toNat)=out.drop q:=by rw[zZ,Nat.zero_add,zW (by simp)]
 have l1:(out.take q).length=q:=by simp;omega
 have n1:(0:Int)<=(q:Int)/\(q:Int)<=((out.length:Nat):Int):=by omega
 have n2:0+((q:Int)).toNat<=out.length:=by rw[zZ];omega
 have n3:(out.take q).length*16<=140737488355328/\(out.take q).length<=140737488355328:=by omega
 have n4:((out.take q).length+1)*16<=140737488355328/\(out.take q).length+1<=140737488355328:=by omega
 have n5:(0+((q:Int)).toNat)+(out.length-((q:Int)).toNat)<=out.length:=by rw[zZ];omega
 have n6:((out.take q++[x]).length+(out.drop q).length)*16<=140737488355328/\(out.take q++[x]).length+(out.drop q).length<=140737488355328:=by simp;omega
 unfold S3;simp only[aH,e1,e2,cP,hx,aM];rw[if_pos n1,if_pos n2,if_pos n3,if_pos n4,if_pos n1,if_pos n5,if_pos n6];simp
theorem Vr{l:List bE}(hl:l.length<=1000000)(hd:rH l){n:Nat}(hn:l.length<n):∀(m i:Nat),l.length-i<m->i<=l.length->DQ l n m i (nT (l.take i))=some (nT l)
 |0,i,hm,_=>by omega
 |m+1,i,hm,hi=>by
  have hdi:rH (l.take i):=hd.sublist (List.take_sublist i l);have hol:(nT (l.take i)).length=i:=by rw[(D8 _).length_eq];simp;omega
  unfold DQ;by_cases hlt:i<l.length;obtain⟨x,hx,_⟩:=fB hlt;obtain⟨q,q1,q2,q3,q4⟩:=Vq hx (out:=nT (l.take i)) (by omega) (Da hdi) (rc:=DQ l n m) n (nT (l.take i)).length (by omega) (zF _) (by simp);simp only[kB hlt,zC,q2,MX hx (show(nT (l.take i)).length<=1000000 by omega) q1,mH hlt (show l.length<=9223372036854775807 by omega)];have NM:rH (l.take (i+1)):=hd.sublist (List.take_sublist _ l);have hperm:((nT (l.take i)).take q++x::(nT (l.take i)).drop q).Perm (l.take (i+1)):=by rw[gQ hx];refine List.perm_middle.trans ?_;rw[List.take_append_drop];exact((D8 (l.take i)).cons x).trans (List.perm_append_comm (l₁:=[x]) (l₂:=l.take i))
  have hne:∀a∈nT (l.take i),a.Feat≠x.Feat:=fun a ha e=>by rw[gQ hx]at NM;have:=(List.pairwise_append.1 NM).2.2 a ((D8 _).mem_iff.1 ha) x (by simp);exact this e
  have hup:lT ((nT (l.take i)).take q++x::(nT (l.take i)).drop q):=by have h0:=Da hdi;unfold lT at*;rw[List.pairwise_append];refine⟨h0.sublist (List.take_sublist _ _),List.pairwise_cons.2 ⟨q3,h0.sublist (List.drop_sublist _ _)⟩,fun a ha b hb=>?_⟩;have h1:=q4 a ha;have h2:=hne a (List.mem_of_mem_take ha);rcases zI.1 hb with rfl |hb;omega;have:=q3 b hb;omega
  rw[<-Wx NM hperm hup];exact Vr hl hd hn m (i+1) (by omega) (by omega);simp only[kL hlt,zD,Hr];rw[zW (by omega)]
theorem xz{l:List bE}(hl:l.length<=1000000)(hd:rH l)(hn:l.length<n):WN n l=some (nT l):=by
 have h:=Vr hl hd hn n 0 (by omega) (by omega);rw[zV,List.take_zero]at h;exact h
structure AZ(f:GFS)(w:List Int)(o:List Int):Prop where
 len:w.length=f.Nodes.length
 get:∀x,kY f x->aC w x=some (if x∈o then(o.idxOf x:Int)else -1)
theorem AZ.snoc{w o:List Int}(h:AZ f w o){v:Int}(hv:kY f v)(hn:v ∉ o):AZ f (w.set (0+v.toNat) (o.length:Int)) (o++[v]):=by
 refine⟨by simp[h.len],fun x hx=>?_⟩;have hvl:v.toNat<w.length:=by rw[h.len];have:=hv.1;have:=hv.2;omega
 have hc:0<=x/\x<((w.set (0+v.toNat) (o.length:Int)).length:Int):=by rw[List.length_set,h.len];exact hx
 have h2:=h.get x hx;have E5:0<=x/\x<(w.length:Int):=by rw[h.len];exact hx
 rw[aC,if_pos E5]at h2;rw[aC,if_pos hc,Nat.zero_add];by_cases e:x=v;subst e;simp[List.idxOf_append,hn,hvl];rw[List.getElem?_set_ne (by have:=hx.1;have:=hv.1;omega),h2];by_cases hxo:x∈o;simp[hxo,List.idxOf_append];simp[hxo,e]
theorem qy{f:GFS}{k:Nat}(hg:qB f)(hf:cA f k)(hk:k<=1000000):∀(n:Nat)(o:List Int)(v:Int)(w:List Int),Seen f o->kY f v->v ∉ o->AZ f w o->f.Nodes.length-o.length+k+2<=n->
  ∃w',DV n v f.Nodes w o=some (w',dfs f n o v)/\AZ f w' (dfs f n o v)
 |0,o,v,w,hs,hv,hn,hw,hfu=>by omega
 |n+1,o,v,w,hs,hv,hn,hw,hfu=>by
  have C3:=hs.snoc hv hn;have C4:=C3.len;simp only[zU,zO,zS]at C4;obtain⟨hx,hxm⟩:=PD hv;have hno:=hg _ hxm;have hal:=hf.arcs _ hxm;have hnl:=hf.nodes;have hsl:(sar f v).length=(nd f v).Arcs.length:=(D8 _).length_eq;have key:∀(m i:Nat)(p:List Int)(w:List Int),(sar f v).length-i<m->i<=(sar f v).length->Seen f p->o.length+1<=p.length->AZ f w p->
    ∃w',GD f.Nodes (sar f v) (DV n) m i w p=some (w',((sar f v).drop i).foldl (iA (dfs f n)) p)/\AZ f w' (((sar f v).drop i).foldl (iA (dfs f n)) p):=by
   intro m;induction m with
   |zero=>intro i p w hm;omega|succ m ih=>
    intro i p w hm hi hp hpl hw;unfold GD;by_cases hlt:i<(sar f v).length;obtain⟨a,ha,ham⟩:=fB hlt;have h1:=hno.arc a (FN.1 ham);have hia:kY f a.To:=⟨h1.2.1,h1.2.2⟩;have dZ:IntKind.i64.wrap ((i:Int)+1)=((i+1:Nat):Int):=mH hlt (by omega);simp only[kB hlt,zC,cP,ha,aM,hw.get _ hia,aR ha,List.foldl_cons];by_cases nM:a.To∈p;have hneg:¬ ((p.idxOf a.To:Nat):Int)<0:=by omega
    simp only[nM,if_true,hneg,yB,zD,S9,dZ,iA];exact ih (i+1) p w (by omega) (by omega) hp hpl hw;have hneg:(-1:Int)<0:=by decide
    simp only[nM,if_false,hneg,yC,zC,S9,dZ,iA];obtain⟨w1,g1,g2⟩:=qy hg hf hk n p a.To w hp hia nM hw (by omega);obtain⟨d1,⟨t,d2⟩,_,_⟩:=Cu hg n p a.To hp hia nM (by omega);simp only[g1,aM];exact ih (i+1) _ w1 (by omega) (by omega) d1 (by rw[d2];simp;omega) g2;rw[bP hlt];simp only[kL hlt,zD,Iq,List.foldl_nil];exact⟨w,rfl,hw⟩
  have hneed:(o.length+1)*8<=140737488355328/\o.length+1<=140737488355328:=by omega
  obtain⟨w',g1,g2⟩:=key n 0 (o++[v]) _ (by omega) (by omega) C3 (by simp) (hw.snoc hv hn);rw[zV,List.drop_zero]at g1;rw[List.drop_zero]at g2;refine⟨w',?_,g2⟩;show Im n (DV n) v f.Nodes w o=_;simp only[Im,hw.get _ hv,aH,hneed,and_self,if_true,hx,aM,xz (show(nd f v).Arcs.length<=1000000 by omega) hno.dis (show(nd f v).Arcs.length<n by omega)];exact g1
theorem Ya{f:GFS}{o w:List Int}{z:Int}{l27:List bS}{rc:Int->List bS->Option GFS}{x:bS}{l:List bE}(hl:l.length<=1000000)(hw:AZ f w o)(hin:∀a∈l,a.To∈o)(hing:∀v∈o,kY f v):∀(m i:Nat),l.length-i<m->i<=l.length->
  L5 (w,o) z l27 rc x m i ((l.take i).map (kM o)++l.drop i)=WU z l27 rc x (l.map (kM o))
 |0,i,hm,_=>by omega
 |m+1,i,hm,hi=>by
  unfold L5;have hlen:((l.take i).map (kM o)++l.drop i).length=l.length:=by simp;omega
  rw[hlen];by_cases hlt:i<l.length;obtain⟨a,ha,ham⟩:=fB hlt;have e1:(((l.take i).map (kM o)++l.drop i))[i]? = some a:=by rw[List.getElem?_append_right (by simp;omega)];simp[show min i l.length=i by omega,ha]
  have e2:(((l.take i).map (kM o)++l.drop i)).set (0+(i:Int).toNat) (kM o a)=(l.take (i+1)).map (kM o)++l.drop (i+1):=by
   rw[aR ha,gQ ha];have h3:((l.take i).map (kM o)).length=i:=by simp;omega
   have:=JX ((l.take i).map (kM o)) (l.drop (i+1)) a (kM o a);rw[h3]at this;rw[Nat.zero_add,zZ,this,List.map_append,zQ,List.map_nil,zT];rfl
  have hto:=hin a ham;have e3:(⟨a.Feat,(o.idxOf a.To:Int)⟩:bE)=kM o a:=rfl;simp only[kB hlt,zC,cP,e1,aM,hw.get _ (hing _ hto),hto,if_true,e3,e2,mH hlt (show l.length<=9223372036854775807 by omega)];exact Ya hl hw hin hing m (i+1) (by omega) (by omega);simp only[kL hlt,zD];rw[zW (by omega),List.drop_eq_nil_of_le (by omega),List.append_nil]
theorem Yb{f:GFS}{k:Nat}(hg:qB f)(hf:cA f k)(hk:k<=1000000){n:Nat}(hn:k+2<=n){r:Int}{o w:List Int}(ho:IE f r o)(hw:AZ f w o):∀(m i:Nat),o.length-i<m->i<=o.length->
  DF f n (w,o) m i ((o.take i).map (kO f o))=some ⟨o.map (kO f o)⟩
 |0,i,hm,_=>by omega
 |m+1,i,hm,hi=>by
  have hol:=ho.seen.len;have hnl:=hf.nodes;unfold DF;by_cases hlt:i<o.length;obtain⟨v,hv,hvm⟩:=fB hlt;obtain⟨hx,hxm⟩:=PD (ho.seen.ing v hvm);have hno:=hg _ hxm;have hal:=hf.arcs _ hxm;have hsl:(sar f v).length=(nd f v).Arcs.length:=(D8 _).length_eq;have h2:=Ya (z:=(i:Int)) (l27:=(o.take i).map (kO f o)) (rc:=DF f n (w,o) m) (x:=nd f v) (l:=sar f v) (by omega) hw (fun a ha=>ho.clo v hvm a (FN.1 ha)) ho.seen.ing n 0 (by omega) (by omega);rw[zV,List.take_zero,List.map_nil,List.nil_append,List.drop_zero]at h2;have hneed:(((o.take i).map (kO f o)).length+1)*32<=140737488355328/\((o.take i).map (kO f o)).length+1<=140737488355328:=by simp;omega
  have hso:=xz (show(nd f v).Arcs.length<=1000000 by omega) hno.dis (show(nd f v).Arcs.length<n by omega);simp only[kB hlt,zC,cP,hv,hx,aM,hso];show L5 (w,o) i _ _ (nd f v) n 0 (sar f v)=_;rw[h2];simp only[WU,aH];rw[if_pos hneed,mH hlt (show o.length<=9223372036854775807 by omega)];have:=Yb hg hf hk hn ho hw m (i+1) (by omega) (by omega);rw[gQ hv]at this;simpa[kO,sar]using this;simp only[kL hlt,zD,Fx];rw[zW (by omega)]
theorem Yc{f:GFS}(hN:f.Nodes.length<=1000000){r:Int}{n:Nat}:∀(m i:Nat),f.Nodes.length-i<m->i<=f.Nodes.length->RP f r n m i (List.replicate i (-1))=WV f r n (List.replicate f.Nodes.length (-1))
 |0,i,hm,_=>by omega
 |m+1,i,hm,hi=>by
  unfold RP;by_cases hlt:i<f.Nodes.length;have hneed:((List.replicate i (-1:Int)).length+1)*8<=140737488355328/\(List.replicate i (-1:Int)).length+1<=140737488355328:=by simp;omega
  have e:List.replicate i (-1:Int)++[-1]=List.replicate (i+1) (-1):=by rw[List.replicate_succ']
  simp only[kB hlt,zC,aH];rw[if_pos hneed,mH hlt (show f.Nodes.length<=9223372036854775807 by omega),e];exact Yc hN m (i+1) (by omega) (by omega);simp only[kL hlt,zD];rw[show i=f.Nodes.length by omega]
theorem lx(hg:qB f)(hf:cA f k)(hk:k<=1000000){r:Int}(hr:kY f r)(hn:2*k+4<=n):W2 n f r=some (j6 f r):=by
 obtain⟨ho,hst⟩:=QA hg hr;have hnl:=hf.nodes;have h0:AZ f (List.replicate f.Nodes.length (-1)) []:=⟨by simp,fun x hx=>by
  have hc:0<=x/\x<((List.replicate f.Nodes.length (-1:Int)).length:Int):=by rw[List.length_replicate];exact hx
  rw[aC,if_pos hc];have:x.toNat<f.Nodes.length:=by have:=hx.1;have:=hx.2;omega
  simp[this]⟩
 obtain⟨w,g1,g2⟩:=qy hg hf hk n [] r _ (Seen.nil f) hr (by simp) h0 (by simp;omega);rw[hst n (by omega)]at g1 g2;have hol:=ho.seen.len;have h1:=Yb hg hf hk (show k+2<=n by omega) ho g2 n 0 (by omega) (by omega);rw[zV,List.take_zero,List.map_nil]at h1;have h2:=Yc (f:=f) (by omega) (r:=r) (n:=n) n 0 (by omega) (by omega);rw[zV,List.replicate_zero]at h2;simp only[W2,h2,WV,g1,aM,h1,j6]
theorem av(hf:cA f k)(hk:k<=1000000)(hn:2*k+4<=n):WA n f=some (if wC f=0 then(j6 f 0,0)else(⟨[]⟩,wC f)):=by
 simp only[WA,ly hf hk (show k<n by omega),aM];by_cases he:wC f=0;obtain⟨e1,e2,e3⟩:=zy.1 he;simp[he,lx e3 hf hk (r:=0) ⟨by omega,by omega⟩ hn,aM];have hb:(wC f != 0)=true:=by simpa using he
 simp[he,hb]
end Go.Proofs
namespace Go.Proofs
open Go Go.Rx Go.Vx
structure OZ(N:Nat)(FB:Int)(l:List bE):Prop where
 up:lT l
 ok:∀a∈l,0<=a.Feat/\a.Feat<FB/\0<=a.To/\a.To<N
end Go.Proofs
namespace Go.Proofs
open Go Go.Rx Go.Vx Go.Shelf Go.Sort
set_option maxRecDepth 10000
abbrev Str:=List UInt8
theorem eP{α S R:Type}{l:List α}(hl:l.length<=9223372036854775807){F:Nat->Int->S->Option R}(I:Nat->S->Prop){Q:R->Prop}
  (h:∀(m i:Nat)(x:α)(s:S),l[i]? = some x->i<l.length->decide ((i:Int)<(l.length:Int))=true->IntKind.i64.wrap ((i:Int)+1)=((i+1:Nat):Int)->I i s->(∀s',I (i+1) s'->∃r,F m ((i+1:Nat):Int) s'=some r/\Q r)->∃r,F (m+1) (i:Int) s=some r/\Q r)
  (hK:∀(m:Nat)(s:S),decide ((l.length:Int)<(l.length:Int))=false->I l.length s->∃r,F (m+1) (l.length:Int) s=some r/\Q r):
  ∀(m i:Nat)(s:S),l.length-i<m->i<=l.length->I i s->∃r,F m (i:Int) s=some r/\Q r
 |0,i,s,hm,_,_=>by omega
 |m+1,i,s,hm,hi,hs=>by
  by_cases hlt:i<l.length;obtain⟨x,hx,_⟩:=fB hlt;exact h m i x s hx hlt (kB hlt) (mH hlt hl) hs fun s' hs'=>eP hl I h hK m (i+1) s' (by omega) (by omega) hs';have:i=l.length:=by omega
  subst this;exact hK m s (kL (by omega)) hs
theorem gI{β:Type}{p:Prop}[Decidable p]{k:Option β}(h:p):aH p k=k:=if_pos h
theorem Tx{a b:Str}(h:a≠b):gE a b=false:=by
 rcases e:gE a b with _|_;rfl;exact absurd ((Qr _ _).1 e) h
theorem A5(a b:Str):gE a b=decide (a=b):=by
 by_cases h:a=b;rw[(Qr _ _).2 h];simp[h];rw[Tx h];simp[h]
variable{α:Type}
variable{l:List α}
theorem Wd{a b:Nat}(h1:a<=b)(h2:b<=l.length):qJ l (a:Int) (b:Int)=some ((l.drop a).take (b-a)):=by
 unfold qJ;have:0<=(a:Int)/\(a:Int)<=(b:Int)/\(b:Int)<=(l.length:Int):=by omega
 simp[this,List.drop_take]
theorem Cd{b:Nat}(h2:b<=l.length):qJ l 0 (b:Int)=some (l.take b):=by
 have:=Wd (l:=l) (Nat.zero_le b) h2
 rwa [zV,List.drop_zero,Nat.sub_zero]at this
theorem Am{a:Nat}(h2:a<=l.length):qJ l (a:Int) (l.length:Int)=some (l.drop a):=by
 have:=Wd (l:=l) h2 (zF _)
 rwa [zW (by simp)]at this
theorem la(n:Nat)(z:Int)(b:Bool):∃r,W6 n z b=some r:=by
 simp only[W6,L3,Fh,WJ];cases decide (z>=48)<;>cases decide (z<=57)<;>cases (z==45)<;>cases b<;>cases decide (z>=65)<;>cases decide (z<=90)<;>cases decide (z>=97)<;>cases decide (z<=122)<;>exact⟨_,rfl⟩
variable{s:Str}
theorem Yr{i:Nat}{x:UInt8}(h:s[i]? = some x):K9 s (i:Int)=some (x.toNat:Int):=by
 have:=(zG.1 h).1;have h2:0<=(i:Int)/\(i:Int)<(s.length:Int):=by omega
 simp[K9,h2,h]
variable{n:Nat}
theorem Zp(s:Str)(b:Bool)(hn:40<=n):∃r,R9 n s b=some r/\(r=true->0<s.length/\s.length<=32):=by
 unfold R9;by_cases h1:(s.length:Int)<1;simp only[h1,yC,zC,aM];exact⟨false,rfl,fun h=>by cases h⟩;by_cases h2:(s.length:Int)>32;simp only[h1,h2,yC,yB,zC,zD,aM];exact⟨false,rfl,fun h=>by cases h⟩;obtain⟨x,hx,_⟩:=fB (show 0<s.length by omega);have h3:=Yr hx;rw[zV]at h3;have hd:∃r,L3 n (x.toNat:Int)=some r:=by unfold L3;cases decide ((x.toNat:Int)>=48)<;>exact⟨_,rfl⟩
 obtain⟨c,hc⟩:=hd;have key:=eP (l:=s) (by omega) (F:=fun m z (_:Unit)=>LJ s b n m z) (fun _ _=>True) (Q:=fun r=>True)
  (fun m i x _ hx hlt hd hw _ ih=>by obtain⟨r,hr⟩:=la n (x.toNat:Int) b;obtain⟨q,hq,_⟩:=ih () trivial;simp only[LJ,hd,zC,Yr hx,aM,hr,hw];rcases r with _|_;exact⟨_,rfl,trivial⟩;exact⟨q,hq,trivial⟩)
  (fun m _ hd _=>by simp only[LJ,hd,zD,Hn];exact⟨_,rfl,trivial⟩) n 0 () (by omega) (by omega) trivial
 obtain⟨q,hq,_⟩:=key;rw[zV]at hq;simp only[h1,h2,yB,zD,h3,aM,hc];cases c with
 |true=>simp only[zC,aM];exact⟨false,rfl,fun h=>by cases h⟩|false=>simp only[zD,aM];rcases((x.toNat:Int)==45)with _|_;exact⟨q,hq,fun _=>by omega⟩;exact⟨false,rfl,fun h=>by cases h⟩
theorem Wa{d:List aT}(hd:d.length<=1000000){s:Str}:∀(m i:Nat),d.length-i<m->i<=d.length->
  (∃j x,i<=j/\d[j]? = some x/\x.Name=s/\(∀k y,i<=k->k<j->d[k]? = some y->y.Name≠s)/\L7 d s m i=some (j:Int))\/((∀x∈d.drop i,x.Name≠s)/\L7 d s m i=some (-1))
 |0,i,hm,_=>by omega
 |m+1,i,hm,hi=>by unfold L7;by_cases hlt:i<d.length;obtain⟨x,hx,_⟩:=fB hlt;simp only[kB hlt,zC,cP,hx,aM,mH hlt (show d.length<=9223372036854775807 by omega),A5];by_cases hb:x.Name=s;simp only[hb,yC,zC];exact .inl ⟨i,x,zF _,hx,hb,fun k y h1 h2=>by omega,rfl⟩;simp only[hb,yB,zD];rcases Wa hd (s:=s) m (i+1) (by omega) (by omega)with⟨j,y,h1,h2,h3,h4,h5⟩|⟨h1,h2⟩;refine .inl ⟨j,y,by omega,h2,h3,fun k z kn m4 hz=>?_,h5⟩;by_cases e:k=i;subst e;rw[hx]at hz;cases hz;exact hb;exact h4 k z (by omega) m4 hz;refine .inr ⟨fun y hy=>?_,h2⟩;rw[aR hx]at hy;rcases zI.1 hy with rfl |hy;exact hb;exact h1 y hy;simp only[kL hlt,zD,Gf,bP hlt];exact .inr ⟨fun x hx=>(List.not_mem_nil hx).elim,by simp⟩
variable{d:List aT}
theorem Dv(hd:d.length<=1000000)(s:Str)(hn:d.length<n):
  (∃(j:Nat)(x:aT),d[j]? = some x/\x.Name=s/\(∀k y,k<j->d[k]? = some y->y.Name≠s)/\wX n d s=some (j:Int))\/((∀x∈d,x.Name≠s)/\wX n d s=some (-1)):=by
 rcases Wa hd (s:=s) n 0 (by omega) (by omega)with⟨j,y,_,h2,h3,h4,h5⟩|⟨h1,h2⟩;exact .inl ⟨j,y,h2,h3,fun k z hk hz=>h4 k z (by omega) hk hz,h5⟩;exact .inr ⟨by rw[List.drop_zero]at h1;exact h1,h2⟩
theorem Yl{l:List Str}(hl:l.length<=1000000){s:Str}:∀(m i:Nat),l.length-i<m->i<=l.length->RZ l s m i=some (decide (s∈l.drop i))
 |0,i,hm,_=>by omega
 |m+1,i,hm,hi=>by unfold RZ;by_cases hlt:i<l.length;obtain⟨x,hx,_⟩:=fB hlt;simp only[kB hlt,zC,cP,hx,aM,aR hx,zI,mH hlt (show l.length<=9223372036854775807 by omega),A5];by_cases e:x=s;simp[e];have e':¬ s=x:=fun h=>e h.symm;simp only[e,e',yB,zD,false_or];exact Yl hl m (i+1) (by omega) (by omega);simp only[kL hlt,zD,Hi,bP hlt,List.not_mem_nil,yB]
variable{l:List Str}
theorem D7(hl:l.length<=1000000)(s:Str)(hn:l.length<n):vC n l s=some (decide (s∈l)):=by
 have:=Yl hl (s:=s) n 0 (by omega) (by omega);rw[zV,List.drop_zero]at this;exact this
def dA(l:List Str):Prop:=l.Pairwise fun a b=>fS a b=true
theorem dA.nodup(h:dA l):l.Nodup:=h.imp fun{a b} h e=>by subst e;rw[ju]at h;cases h
theorem Vb(hl:l.length<=1000000)(ha:dA l){j:Nat}(hj:j<=l.length)(hb:∀x∈l.take j,fS x s=true)(hx:∀x,l[j]? = some x->fS x s=false):∃out,WR l s j=some out/\(∀x,x∈out↔x=s\/x∈l)/\out.length<=l.length+1/\dA out:=by
 unfold WR;have tl:(l.take j).length=j:=by simp;omega
 have dl:(l.drop j).length=l.length-j:=by simp
 have ins:(∀x∈l.drop j,fS s x=true)->∃out,(a8 (qJ l 0 (j:Int)) fun eK=>
  aH (eK.length*16<=140737488355328/\eK.length<=140737488355328) (
  aH ((eK.length+1)*16<=140737488355328/\eK.length+1<=140737488355328) (
  a8 (qJ l (j:Int) (l.length:Int)) fun gW=>
  aH (((eK++[s]).length+gW.length)*16<=140737488355328/\(eK++[s]).length+gW.length<=140737488355328) (
  some ((eK++[s])++gW)))))=some out/\(∀x,x∈out↔x=s\/x∈l)/\out.length<=l.length+1/\dA out:=by
  intro hd;refine⟨(l.take j++[s])++l.drop j,?_,fun x=>?_,by simp;omega,?_⟩;rw[Cd hj,aM,gI (by rw[tl];omega),gI (by rw[tl];omega),Am hj,aM,gI (by rw[zU,tl,dl];simp;omega)];have:=List.take_append_drop j l;constructor;intro h;simp only[yD,List.mem_singleton]at h;rcases h with(h |h)|h;exact .inr (List.mem_of_mem_take h);exact .inl h;exact .inr (List.mem_of_mem_drop h);rintro(h |h);simp[h];rw[<-this]at h;simp only[yD]at h ⊢;rcases h with h |h;exact .inl (.inl h);exact .inr h;unfold dA at*;rw[<-List.take_append_drop j l,List.pairwise_append]at ha;rw[List.pairwise_append,List.pairwise_append];refine⟨⟨ha.1,by simp,fun a h1 b h2=>by simp at h2;subst h2;exact hb a h1⟩,ha.2.1,fun a h1 b h2=>?_⟩;rcases yD.1 h1 with h1 |h1;exact ha.2.2 a h1 b h2;simp at h1;subst h1;exact hd b h2
 by_cases hlt:j<l.length;obtain⟨x,hxj,hxm⟩:=fB hlt;have h1:=hx x hxj;simp only[kB hlt,zC,cP,hxj,aM,A5];by_cases e:x=s;subst e;simp only[yC,zC];exact⟨l,rfl,fun y=>⟨fun h=>.inr h,fun h=>h.elim (fun h=>h ▸ hxm) id⟩,by omega,ha⟩;simp only[e,yB,zD];have h2:fS s x=true:=by rcases h3:fS s x with _|_;exact absurd (jr x s h1 h3) e;rfl
 refine ins fun y hy=>?_;rw[aR hxj]at hy;rcases zI.1 hy with rfl |hy
 exact h2;have:l=l.take (j+1)++l.drop (j+1):=(List.take_append_drop _ _).symm;unfold dA at ha;rw[this,List.pairwise_append]at ha;exact jq _ _ _ h2 (ha.2.2 x (by rw[gQ hxj];simp) y hy);simp only[kL hlt,zD,aM];exact ins fun y hy=>by rw[bP hlt]at hy;cases hy
theorem GE{l:List Str}(hl:l.length<=1000000)(ha:dA l){s:Str}:∀(m i:Nat),l.length-i<m->i<=l.length->(∀x∈l.take i,fS x s=true)->∃out,RJ l s m i=some out/\(∀x,x∈out↔x=s\/x∈l)/\out.length<=l.length+1/\dA out
 |0,i,hm,_,_=>by omega
 |m+1,i,hm,hi,hb=>by
  unfold RJ;by_cases hlt:i<l.length;obtain⟨x,hx,_⟩:=fB hlt;simp only[kB hlt,zC,cP,hx,aM,mH hlt (show l.length<=9223372036854775807 by omega)];cases hbl:fS x s with
  |true=>
   simp only[zC];refine GE hl ha m (i+1) (by omega) (by omega) fun y hy=>?_;rw[gQ hx]at hy;rcases yD.1 hy with hy |hy
   exact hb y hy;simp at hy;subst hy;exact hbl
  |false=>simp only[zD];exact Vb hl ha hi hb fun y hy=>by rw[hx]at hy;cases hy;exact hbl
  simp only[kL hlt,zD,aM];exact Vb hl ha hi hb fun y hy=>by have:=(zG.1 hy).1;omega
theorem QC(hl:l.length<=1000000)(ha:dA l)(s:Str)(hn:l.length<n):∃out,D9 n l s=some out/\(∀x,x∈out↔x=s\/x∈l)/\out.length<=l.length+1/\dA out:=by
 have:=GE hl ha (s:=s) n 0 (by omega) (by omega) (by simp);rw[zV]at this;exact this
structure oJ(l0 l:List Str)(out:List Str):Prop where
 mem:∀x,x∈out↔x∈l0\/x∈l
 len:out.length<=l0.length+l.length
 asc:dA out
theorem oJ.next{l0 out out':List Str}(h:oJ l0 l out)(h1:∀x,x∈out'↔x=s\/x∈out)(h2:out'.length<=out.length+1)(h3:dA out'):oJ l0 (l++[s]) out':=by
 refine⟨fun x=>?_,by have:=h.len;simp;omega,h3⟩;rw[h1,h.mem];simp only[yD,List.mem_singleton];constructor;rintro(h |h |h);exact .inr (.inr h);exact .inl h;exact .inr (.inl h);rintro(h |h |h);exact .inr (.inl h);exact .inr (.inr h);exact .inl h
theorem oJ.nil(h:dA l):oJ l [] l:=⟨fun x=>by simp,by simp,h⟩
theorem names_ok(hd:d.length<=1000)(hn:5000<=n):∃out,WE n d=some out/\oJ [] (d.map aT.Name) out:=by
 have:=eP (l:=d) (by omega) (F:=fun m z s=>LI d n m s z) (fun i s=>oJ [] ((d.take i).map aT.Name) s) (Q:=fun out=>oJ [] (d.map aT.Name) out)
  (fun m i x s hx hlt hd' hw hI ih=>by have hl:=hI.len;simp at hl;obtain⟨o,h1,h2,h3,h4⟩:=QC (l:=s) (by omega) hI.asc x.Name (show s.length<n by omega);simp only[LI,hd',zC,cP,hx,aM,h1,hw];exact ih o (by rw[gQ hx,List.map_append];exact hI.next h2 h3 h4))
  (fun m s hd' hI=>by simp only[LI,hd',zD,Hc];rw[zW (zF _)]at hI;exact⟨s,rfl,hI⟩) n 0 [] (by omega) (by omega) (oJ.nil List.Pairwise.nil)
 rw[zV]at this;exact this
theorem ul(hd:d.length<=12)(hn:5000<=n):∃e,WD n d=some e/\(e=0->∀x∈d,x.Supers.length<=256/\x.Feats.length<=256):=by
 have:=eP (l:=d) (by omega) (F:=fun m z (_:Unit)=>LF d m z) (fun i _=>∀x∈d.take i,x.Supers.length<=256/\x.Feats.length<=256) (Q:=fun e=>e=0->∀x∈d,x.Supers.length<=256/\x.Feats.length<=256)
  (fun m i x _ hx hlt hd' hw hI ih=>by
   simp only[LF,hd',zC,cP,hx,aM,hw];by_cases h1:(x.Supers.length:Int)>256;simp only[h1,yC,zC,aM];exact⟨7,rfl,fun h=>by cases h⟩;by_cases h2:(x.Feats.length:Int)>256;simp only[h1,h2,yC,yB,zC,zD,aM];exact⟨7,rfl,fun h=>by cases h⟩;simp only[h1,h2,yB,zD,aM];refine ih () fun y hy=>?_;rw[gQ hx]at hy;rcases yD.1 hy with hy |hy
   exact hI y hy;simp at hy;subst hy;omega)
  (fun m _ hd' hI=>by simp only[LF,hd',zD,Gy];rw[zW (zF _)]at hI;exact⟨0,rfl,fun _=>hI⟩) n 0 () (by omega) (by omega) (by simp)
 rw[zV]at this;have h:¬ (d.length:Int)>256:=by omega
 simp only[WD,h,yB,zD];exact this
theorem ll(s:Str)(hn:40<=n):∃r,W7 n s=some r/\(r=true->0<s.length/\s.length<=32):=by
 obtain⟨r,h1,h2⟩:=Zp s false hn;exact⟨r,by simp[W7,h1,aM],h2⟩
structure UQ(d:List aT):Prop where
 nod:(d.map aT.Name).Nodup
 len:∀x∈d,0<x.Name.length/\x.Name.length<=32
theorem tn(hd:d.length<=12)(hn:5000<=n):∃e,Ff n d=some e/\(e=0->UQ d):=by
 have:=eP (l:=d) (by omega) (F:=fun m z (_:Unit)=>LH d n m z) (fun i _=>UQ (d.take i)) (Q:=fun e=>e=0->UQ d)
  (fun m i x _ hx hlt hd' hw hI ih=>by obtain⟨r,h1,h2⟩:=ll x.Name (show 40<=n by omega);simp only[LH,hd',zC,cP,hx,aM,hw,h1];rcases r with _|_;exact⟨1,rfl,fun h=>by cases h⟩;simp only[Bool.not_true,zD];rcases Dv (d:=d) (by omega) x.Name (show d.length<n by omega)with⟨j,y,g1,g2,g3,g4⟩|⟨g1,g2⟩;simp only[g4,aM];by_cases hj:(j:Int)<(i:Int);simp only[hj,yC,zC];exact⟨4,rfl,fun h=>by cases h⟩;simp only[hj,yB,zD];refine ih () ?_;rw[gQ hx];refine⟨?_,fun z hz=>?_⟩;rw[List.map_append,List.nodup_append];refine⟨hI.nod,by simp,fun a ha b hb e=>?_⟩;simp at hb;subst hb;obtain⟨z,hz,e2⟩:=List.mem_map.1 ha;obtain⟨k,hk,e3⟩:=List.mem_iff_getElem.1 hz;rw[List.length_take]at hk;rw[List.getElem_take]at e3;exact g3 k z (by omega) (by rw[List.getElem?_eq_getElem (by omega),e3]) (e2.trans e);rcases yD.1 hz with hz |hz;exact hI.len z hz;simp at hz;subst hz;exact h2 rfl;exact absurd rfl (g1 x (zX hx)))
  (fun m _ hd' hI=>by simp only[LH,hd',zD,Ha];rw[zW (zF _)]at hI;exact⟨0,rfl,fun _=>hI⟩) n 0 () (by omega) (by omega) ⟨by simp,by simp⟩
 rw[zV]at this;exact this
def g9(d:List aT)(s:Str):Prop:=∃x∈d,x.Name=s
theorem Ox(hd:d.length<=1000000)(h:g9 d s)(hn:d.length<n):∃(j:Nat)(x:aT),d[j]? = some x/\x.Name=s/\wX n d s=some (j:Int):=by
 rcases Dv hd s hn with⟨j,x,h1,h2,_,h4⟩|⟨h1,_⟩;exact⟨j,x,h1,h2,h4⟩;obtain⟨x,hx,e⟩:=h;exact absurd e (h1 x hx)
def A8(d:List aT)(x:aT):Prop:=(∀s∈x.Supers,g9 d s)/\x.Supers.Nodup
theorem bz(hd:d.length<=12)(hs:∀x∈d,x.Supers.length<=256)(hn:5000<=n):∃e,Fq n d=some e/\(e=0->∀x∈d,A8 d x):=by
 have:=eP (l:=d) (by omega) (F:=fun m z (_:Unit)=>BY d n m z) (fun i _=>∀x∈d.take i,A8 d x) (Q:=fun e=>e=0->∀x∈d,A8 d x)
  (fun m i x _ hx hlt hd' hw hI ih=>by
   have hxm:=zX hx;have hxs:=hs x hxm;simp only[BY,hd',zC,cP,hx,aM];have:=eP (l:=x.Supers) (by omega) (F:=fun m' z (_:Unit)=>LL d n i (BY d n m) x m' z) (fun k _=>(∀s∈x.Supers.take k,g9 d s)/\(x.Supers.take k).Nodup) (Q:=fun e=>e=0->∀x∈d,A8 d x)
    (fun m' k s _ hsx lO bX kT eV fZ=>by
     simp only[LL,bX,zC,cP,hsx,aM,kT];rcases Dv (d:=d) (by omega) s (show d.length<n by omega)with⟨j,y,g1,g2,g3,g4⟩|⟨g1,g2⟩;have hj:¬ (j:Int)<0:=by omega
     have hal:=D7 (l:=x.Supers.take k) (by simp;omega) s (n:=n) (by simp;omega);simp only[g4,aM,hj,yB,zD,Cd (show k<=x.Supers.length by omega),hal];by_cases hm:s∈x.Supers.take k;simp only[hm,yC,zC];exact⟨4,rfl,fun h=>by cases h⟩;simp only[hm,yB,zD];refine fZ () ?_;rw[gQ hsx];refine⟨fun t ht=>?_,?_⟩;rcases yD.1 ht with ht |ht;exact eV.1 t ht;simp at ht;subst ht;exact⟨y,zX g1,g2⟩;rw[List.nodup_append];exact⟨eV.2,by simp,fun a ha b hb e=>by simp at hb;subst hb;subst e;exact hm ha⟩;simp only[g2,aM];exact⟨5,rfl,fun h=>by cases h⟩)
    (fun m' _ bX eV=>by
     simp only[LL,bX,zD,Hx,hw];rw[zW (zF _)]at eV;refine ih () fun y hy=>?_;rw[gQ hx]at hy;rcases yD.1 hy with hy |hy
     exact hI y hy;simp at hy;subst hy;exact eV) n 0 () (by omega) (by omega) ⟨by simp,by simp⟩
   rw[zV]at this;exact this)
  (fun m _ hd' hI=>by simp only[BY,hd',zD,Hy];rw[zW (zF _)]at hI;exact⟨0,rfl,fun _=>hI⟩) n 0 () (by omega) (by omega) (by simp)
 rw[zV]at this;exact this
theorem uq{x:aT}(hs:x.Supers.length<=256)(hl:l.length<=1000)(hn:5000<=n):Fe n x l=some (decide (∀s∈x.Supers,s∈l)):=by
 have:=eP (l:=x.Supers) (by omega) (F:=fun m z (_:Unit)=>LG x l n m z) (fun i _=>∀s∈x.Supers.take i,s∈l) (Q:=fun b=>b=decide (∀s∈x.Supers,s∈l))
  (fun m i s _ hx hlt hd' hw hI ih=>by
   simp only[LG,hd',zC,cP,hx,aM,hw,D7 (l:=l) (by omega) s (n:=n) (by omega)];by_cases hm:s∈l;simp only[hm,yC,Bool.not_true,zD];refine ih () fun t ht=>?_;rw[gQ hx]at ht;rcases yD.1 ht with ht |ht
   exact hI t ht;simp at ht;subst ht;exact hm;simp only[hm,yB,Bool.not_false,zC];exact⟨false,rfl,(decide_eq_false fun h=>hm (h s (zX hx))).symm⟩)
  (fun m _ hd' hI=>by simp only[LG,hd',zD,Gz];rw[zW (zF _)]at hI;exact⟨true,rfl,(decide_eq_true hI).symm⟩) n 0 () (by omega) (by omega) (by simp)
 rw[zV]at this;obtain⟨r,h1,h2⟩:=this;rw[<-h2];exact h1
inductive Ord(d:List aT):List Str->Prop
 |nil:Ord d []
 |snoc {l:List Str} {x:aT}:Ord d l->x∈d->x.Name ∉ l->(∀s∈x.Supers,s∈l)->Ord d (l++[x.Name])
theorem Ord.nodup(h:Ord d l):l.Nodup/\∀s∈l,g9 d s:=by
 induction h with|nil=>simp| @snoc l x h1 h2 h3 h4 ih=>refine⟨?_,fun s hs=>?_⟩;rw[List.nodup_append];exact⟨ih.1,by simp,fun a ha b hb e=>by simp at hb;subst hb;subst e;exact h3 ha⟩;rcases yD.1 hs with hs |hs;exact ih.2 s hs;simp at hs;subst hs;exact⟨x,h2,rfl⟩
theorem VT:∀{a b:List Str},a.Nodup->(∀x∈a,x∈b)->a.length<=b.length
 |[],b,_,_=>by simp
 |x::a,b,hn,hs=>by
  obtain⟨h1,h2⟩:=List.nodup_cons.1 hn;have h3:=VT (b:=b.erase x) h2 fun y hy=>by have:y≠x:=fun e=>h1 (e ▸ hy);exact(List.mem_erase_of_ne this).2 (hs y (List.mem_cons_of_mem x hy))
  have h4:=List.length_erase_of_mem (hs x (by simp));have h5:=List.length_pos_of_mem (hs x (by simp));simp only[zO];omega
theorem Ord.len(h:Ord d l):l.length<=d.length:=by
 have:=VT (b:=d.map aT.Name) h.nodup.1 fun s hs=>by obtain⟨x,hx,rfl⟩:=h.nodup.2 s hs;exact List.mem_map_of_mem hx
 rwa [yA]at this
theorem eh(hd:d.length<=12)(hs:∀x∈d,x.Supers.length<=256)(hn:5000<=n):∃l,Fs n d=some l/\Ord d l:=by
 have key:∀(m:Nat)(b:Bool)(l:List Str),d.length-l.length+2<=m+(cond b 0 1)->Ord d l->∃r,xA d n m b l=some r/\Ord d r:=by
  intro m;induction m with
  |zero=>intro b l hm;cases b<;>simp at hm<;>omega|succ m ih=>
   intro b l hm hl;have hll:=hl.len;unfold xA;rcases b with _|_;simp only[zD,Ia];exact⟨l,rfl,hl⟩;simp only[zC]at hm ⊢;have:=eP (l:=d) (by omega) (F:=fun m' z (s:Bool×Str)=>BZ d n l (xA d n m) m' s.1 s.2 z) (fun i s=>s.1=true->∃x∈d,x.Name=s.2/\x.Name ∉ l/\∀t∈x.Supers,t∈l) (Q:=fun r=>Ord d r)
    (fun m' i x s hx hlt hd' hw hI fZ=>by
     have hxm:=zX hx;simp only[BZ,hd',zC,cP,hx,aM,hw,D7 (l:=l) (by omega) x.Name (n:=n) (by omega),uq (hs x hxm) (show l.length<=1000 by omega) hn];by_cases h1:x.Name∈l;simp only[h1,yC,zC,aM];exact fZ (s.1,s.2) hI;by_cases h2:∀t∈x.Supers,t∈l;have e1:decide (∀t∈x.Supers,t∈l)=true:=decide_eq_true h2;simp only[h1,e1,yB,zD,Bool.not_true,aM,XH,hw];have hnew:∃y∈d,y.Name=x.Name/\y.Name ∉ l/\∀t∈y.Supers,t∈l:=⟨x,hxm,rfl,h1,h2⟩;cases hb:s.1 with
     |false=>simp only[Bool.not_false,zC,aM];exact fZ (true,x.Name) fun _=>hnew
     |true=>
      simp only[Bool.not_true,zD,aM];cases fS x.Name s.2 with
      |true=>simp only[zC];exact fZ (true,x.Name) fun _=>hnew
      |false=>simp only[zD];exact fZ (true,s.2) fun _=>hI hb
     have e1:decide (∀t∈x.Supers,t∈l)=false:=decide_eq_false h2;simp only[h1,e1,yB,zD,Bool.not_false,aM,zC];exact fZ (s.1,s.2) hI)
    (fun m' s hd' hI=>by
     simp only[BZ,hd',zD,Hz,XI];rcases hb:s.1 with _|_;simp only[zD];exact ih false l (by simp;omega) hl;obtain⟨x,hx,e,h1,h2⟩:=hI hb;have GX:Ord d (l++[s.2]):=by rw[<-e];exact .snoc hl hx h1 h2
     have:=GX.len;simp only[zU,zO,zS]at this;simp only[zC];rw[gI (by omega)];exact ih true (l++[s.2]) (by simp;omega) GX) n 0 (false,[]) (by omega) (by omega) (fun h=>by cases h)
   rw[zV]at this;exact this
 exact key n true [] (by simp;omega) .nil
structure pH(d:List aT):Prop where
 len:d.length<=12
 siz:∀x∈d,x.Supers.length<=256/\x.Feats.length<=256
 nam:UQ d
 sup:∀x∈d,A8 d x
 ord:∃l,Ord d l/\l.length=d.length
 one:(d.filter fun x=>decide (x.Supers=[])).length=1
theorem tr(hd:d.length<=12)(hn:5000<=n):∃e,WF n d=some e/\(e=0->pH d):=by
 obtain⟨e1,a1,a2⟩:=ul hd hn;simp only[WF,a1,aM];by_cases h1:e1=0;subst h1;have a3:=a2 rfl;obtain⟨e2,b1,b2⟩:=tn hd hn;simp only[bne_self_eq_false,zD,b1,aM];by_cases h2:e2=0;subst h2;obtain⟨e3,c1,c2⟩:=bz hd (fun x hx=>(a3 x hx).1) hn;simp only[bne_self_eq_false,zD,c1,aM];by_cases h3:e3=0;subst h3;simp only[bne_self_eq_false,zD];have:=eP (l:=d) (by omega) (F:=fun m z (s:Int)=>DN d n m s z) (fun i s=>s=(((d.take i).filter fun x=>decide (x.Supers=[])).length:Int)) (Q:=fun e=>e=0->pH d)
  (fun m i x s hx hlt hd' hw hI ih=>by
   have hfl:=List.length_filter_le (fun x:aT=>decide (x.Supers=[])) (d.take i);rw[List.length_take]at hfl;simp only[DN,hd',zC,cP,hx,aM,X8,hw];by_cases hz:x.Supers=[];have e0:((x.Supers.length:Int)==0)=true:=by simp[hz]
   have e1:IntKind.i64.wrap (s+1)=s+1:=wr (by omega) (by omega);simp only[e0,zC,e1];refine ih (s+1) ?_;rw[gQ hx,List.filter_append,zU,hI];simp[hz];have e0:((x.Supers.length:Int)==0)=false:=by simp[List.length_eq_zero_iff,hz]
   simp only[e0,zD];refine ih s ?_;rw[gQ hx,List.filter_append,zU,hI];simp[hz])
  (fun m s hd' hI=>by
   rw[zW (zF _)]at hI;simp only[DN,hd',zD,He];by_cases h4:s=1;obtain⟨l,g1,g2⟩:=eh hd (fun x hx=>(a3 x hx).1) hn;have hl:=g2.len;simp only[h4,bne_self_eq_false,zD,g1,aM];by_cases h5:(l.length:Int)<(d.length:Int);simp only[h5,yC,zC];exact⟨6,rfl,fun h=>by cases h⟩;simp only[h5,yB,zD];exact⟨0,rfl,fun _=>⟨hd,a3,b2 rfl,c2 rfl,⟨l,g2,by omega⟩,by omega⟩⟩;have e4:(s != 1)=true:=by simpa using h4
   simp only[e4,zC];exact⟨1,rfl,fun h=>by cases h⟩) n 0 0 (by omega) (by omega) (by simp)
 rw[zV]at this;exact this;have e4:(e3 != 0)=true:=by simpa using h3
 simp only[e4,zC];exact⟨e3,rfl,fun h=>absurd h h3⟩;have e4:(e2 != 0)=true:=by simpa using h2
 simp only[e4,zC];exact⟨e2,rfl,fun h=>absurd h h2⟩;have e4:(e1 != 0)=true:=by simpa using h1
 simp only[e4,zC];exact⟨e1,rfl,fun h=>absurd h h1⟩
variable{a:Nat}
theorem wu(h:a<18446744073709551616):IntKind.u64.wrap (a:Int)=(a:Int):=by
 simp only[IntKind.wrap,IntKind.bits,IntKind.signed];simp;omega
variable{b:Nat}
theorem Bc(ha:a<18446744073709551616)(hb:b<18446744073709551616):AY .u64 (a:Int) (b:Int)=((a&&&b:Nat):Int):=by
 have h:(BitVec.ofInt 64 (a:Int)&&&BitVec.ofInt 64 (b:Int)).toNat=a&&&b:=by simp only[BitVec.ofInt_natCast,BitVec.toNat_and,BitVec.toNat_ofNat];rw[Nat.mod_eq_of_lt ha,Nat.mod_eq_of_lt hb]
 show IntKind.u64.wrap (((BitVec.ofInt 64 (a:Int)&&&BitVec.ofInt 64 (b:Int)).toNat:Nat):Int)=_;rw[h];exact wu (Nat.lt_of_le_of_lt Nat.and_le_left ha)
theorem nv(ha:a<18446744073709551616)(hb:b<18446744073709551616):SB .u64 (a:Int) (b:Int)=((a|||b:Nat):Int):=by
 have h:(BitVec.ofInt 64 (a:Int)|||BitVec.ofInt 64 (b:Int)).toNat=a|||b:=by simp only[BitVec.ofInt_natCast,BitVec.toNat_or,BitVec.toNat_ofNat];rw[Nat.mod_eq_of_lt ha,Nat.mod_eq_of_lt hb]
 show IntKind.u64.wrap (((BitVec.ofInt 64 (a:Int)|||BitVec.ofInt 64 (b:Int)).toNat:Nat):Int)=_;rw[h];exact wu (Nat.or_lt_two_pow (n:=64) ha hb)
theorem Rw(ha:a<18446744073709551616)(hb:b<18446744073709551616):∃c:Nat,KS .u64 (a:Int) (b:Int)=(c:Int)/\(c=0↔a&&&b=a):=by
 refine⟨(BitVec.ofInt 64 (a:Int) &&& ~~~ BitVec.ofInt 64 (b:Int)).toNat,?_,?_⟩;exact wu (BitVec.isLt _);have h1:(BitVec.ofInt 64 (a:Int)&&&BitVec.ofInt 64 (b:Int)).toNat=a&&&b:=by simp only[BitVec.ofInt_natCast,BitVec.toNat_and,BitVec.toNat_ofNat];rw[Nat.mod_eq_of_lt ha,Nat.mod_eq_of_lt hb]
 have h2:(BitVec.ofInt 64 (a:Int)).toNat=a:=by simp only[BitVec.ofInt_natCast,BitVec.toNat_ofNat];exact Nat.mod_eq_of_lt ha
 generalize BitVec.ofInt 64 (a:Int)=x at*;generalize BitVec.ofInt 64 (b:Int)=y at*;rw[<-h1];constructor;intro h;have h3:x &&& ~~~ y=0#64:=BitVec.eq_of_toNat_eq (by simpa using h);have:x&&&y=x:=by ext i hi;have:=congrArg (fun z=>z.getLsbD i) h3;simp[hi]at this ⊢;intro hx;exact this hx
 rw[this,h2];intro h;have h3:x&&&y=x:=BitVec.eq_of_toNat_eq (by rw[h,h2]);have:x &&& ~~~ y=0#64:=by ext i hi;have:=congrArg (fun z=>z.getLsbD i) h3;simp[hi]at this ⊢;intro hx;exact this hx
 rw[this];rfl
def bt(w:Nat):List Int:=if w=0 then[]else[(w:Int)]
theorem IM:bt 0=[]:=rfl
variable{w:Nat}
theorem pK(h:w≠0):bt w=[(w:Int)]:=if_neg h
theorem my:((bt w).length:Int)=0↔w=0:=by
 by_cases h:w=0;simp[h,bt];simp[h,bt]
theorem Me{w:Nat}{k:Nat}(hk:k<=1000):∀(j m:Nat),j<=k->j+2<=m->GB ((w:Int)::List.replicate k 0) m ((j+1:Nat):Int)=some (bt w)
 |0,0,_,h=>by omega
 |0,1,_,h=>by omega
 |0,m+2,_,_=>by
  have e0:IntKind.i64.wrap (((0+1:Nat):Int)-1)=0:=wr (z:=0) (by omega) (by omega);have e1:aC ((w:Int)::List.replicate k 0) 0=some (w:Int):=by simp[aC]
  have e2:decide (((0+1:Nat):Int)>0)=true:=by simp
  have c0:=Cd (l:=(w:Int)::List.replicate k 0) (b:=0) (by simp);have c1:=Cd (l:=(w:Int)::List.replicate k 0) (b:=1) (by simp);rw[zV,List.take_zero]at c0;rw[GB,e2,e0,zC,e1,aM,aM];by_cases hw:w=0;have:((w:Int)==0)=true:=by simp[hw]
  rw[this,zC,GB];simp only[Int.lt_irrefl,yB,zD,aM,XJ,c0,show((0:Int)>0)=False by simp];rw[gI (by simp),hw,IM];have:((w:Int)==0)=false:=by simp[hw]
  rw[this,zD,XJ,show((0+1:Nat):Int)=((1:Nat):Int) by simp,c1,aM,gI (by simp),pK hw];rfl
 |j+1,m,hj,hm=>by
  obtain⟨m,rfl⟩:∃q,m=q+1:=⟨m-1,by omega⟩;have e0:IntKind.i64.wrap (((j+1+1:Nat):Int)-1)=((j+1:Nat):Int):=IU (by omega) (by omega);have e1:aC ((w:Int)::List.replicate k 0) ((j+1:Nat):Int)=some 0:=by rw[cP,zH,List.getElem?_replicate,if_pos (by omega)]
  have e2:decide (((j+1+1:Nat):Int)>0)=true:=by simp;omega
  rw[GB,e2,e0,zC,e1,aM,aM];exact Me hk j m (by omega) (by omega)
variable{n:Nat}
theorem Mc(hn:5<=n):BP n [(w:Int)]=some (bt w):=Me (k:=0) (by omega) 0 n (by omega) (by omega)
theorem Md(hn:5<=n):BP n []=some []:=by
 obtain⟨k,rfl⟩:=Nat.exists_eq_add_of_le' hn;rfl
theorem li(hn:5<=n):BP n (bt w)=some (bt w):=by
 by_cases h:w=0;subst h;exact Md hn;rw[pK h,Mc hn,pK h]
theorem Wr(b n:Nat):KY n (bt b) 0=some (b:Int):=by
 by_cases h:b=0;subst h;rfl;rw[pK h];rfl
theorem Wj(ha:a<4096)(hb:b<4096)(hn:5<=n):KW n (bt a) (bt b)=some (bt (a&&&b)):=by
 obtain⟨k,rfl⟩:=Nat.exists_eq_add_of_le' hn;by_cases h:a=0;subst h;rw[Nat.zero_and];have:=Md (n:=k+5) hn;simp only[KW,IM,WS,zS,RL,this,aM];rfl;have h1:=Bc (a:=a) (b:=b) (by omega) (by omega);have h2:=Mc (w:=a&&&b) (n:=k+5) hn;have e:KW (k+5) [(a:Int)] (bt b)=a8 (KY (k+5) (bt b) 0) fun fO=>aH ((0+1)*8<=140737488355328/\0+1<=140737488355328) (RL (k+5) [AY .u64 (a:Int) fO]):=rfl;rw[pK h,e,Wr,aM,gI (by omega),RL,h1,h2];rfl
theorem sr(ha:a<4096)(hb:b<4096)(hn:5<=n):∃c:Nat,R7 n (bt a) (bt b)=some (bt c)/\(c=0↔a&&&b=a):=by
 obtain⟨k,rfl⟩:=Nat.exists_eq_add_of_le' hn;by_cases h:a=0;subst h;have:=Md (n:=k+5) hn;refine⟨0,?_,by simp⟩;simp only[R7,IM,XB,zS,S0,this,aM];rfl;obtain⟨c,h1,h3⟩:=Rw (a:=a) (b:=b) (by omega) (by omega);have h2:=Mc (w:=c) (n:=k+5) hn;have e:R7 (k+5) [(a:Int)] (bt b)=a8 (KY (k+5) (bt b) 0) fun fO=>aH ((0+1)*8<=140737488355328/\0+1<=140737488355328) (S0 (k+5) [KS .u64 (a:Int) fO]):=rfl;refine⟨c,?_,h3⟩;rw[pK h,e,Wr,aM,gI (by omega),S0,h1,h2];rfl
theorem Ph(ha:a<4096)(hb:b<4096)(hn:5<=n):L4 n (bt a) (bt b)=some (decide (a&&&b=a)):=by
 obtain⟨c,h1,h2⟩:=sr ha hb hn;rw[L4,h1,aM];congr 1;rw[Bool.eq_iff_iff,beq_iff_eq,my,h2,decide_eq_true_eq]
theorem Ea(ha:a<4096)(hb:b<4096)(hn:5<=n):WI n (bt a) (bt b)=some (decide (a=b)):=by
 simp only[WI,Ph ha hb hn,Ph hb ha hn,aM];by_cases h:a&&&b=a;by_cases h':b&&&a=b;have:a=b:=by rw[<-h,Nat.and_comm,h']
 simp[h,h',this,aM];have:a≠b:=fun e=>h' (by rw[<-e,Nat.and_self]);simp[h,h',this,aM];have:a≠b:=fun e=>h (by rw[<-e,Nat.and_self]);simp[h,this,aM]
theorem Vu{i:Nat}(hw:w<4096)(hi:i<64):QX n (bt w) (i:Int)=some (w.testBit i):=by
 have e0:decide ((i:Int)<0)=false:=by simp
 have e1:(i:Int).tdiv 64=0:=by rw[Int.tdiv_eq_ediv_of_nonneg (by omega)];omega
 have e2:IntKind.i64.wrap 0=0:=wr (by omega) (by omega);simp only[QX,e0,zD,aM,e1,e2];by_cases h:w=0;subst h;simp[IM];have e3:decide ((0:Int)>=((bt w).length:Int))=false:=by rw[pK h];simp
 have e4:aC (bt w) 0=some (w:Int):=by rw[pK h];rfl
 have e5:(i:Int).tmod 64=(i:Int):=by rw[Int.tmod_eq_emod_of_nonneg (by omega)];omega
 have e6:IntKind.u64.wrap (i:Int)=(i:Int):=wu (by omega);have e7:min ((i:Int).toNat) IntKind.u64.bits=i:=by rw[zZ];exact Nat.min_eq_left (by show i<=64;omega)
 have e8:(w:Int).fdiv (2^i)=((w/2^i:Nat):Int):=by rw[show(2:Int)^i=((2^i:Nat):Int) by simp,Int.fdiv_eq_ediv_of_nonneg _ (Int.natCast_nonneg _)];rfl
 have hlt:w/2^i<18446744073709551616:=Nat.lt_of_le_of_lt (Nat.div_le_self _ _) (by omega);have e9:=Bc (a:=w/2^i) (b:=1) hlt (by omega);rw[show((1:Nat):Int)=1 from rfl]at e9;simp only[e3,zD,e4,aM,e5,e6];rw[gI (by omega),e7,e8,e9];congr 1;rw[Bool.eq_iff_iff,beq_iff_eq,Nat.testBit_eq_decide_div_mod_eq,decide_eq_true_eq,Nat.and_one_is_mod];omega
def bl(w:Nat):List Int:=((List.range 64).filter fun i=>w.testBit i).map fun(i:Nat)=>(i:Int)
theorem lq(hw:w<4096)(hn:100<=n):Et n (bt w)=some (bl w):=by
 by_cases h:w=0;subst h;obtain⟨k,rfl⟩:=Nat.exists_eq_add_of_le' hn;have e:bl 0=[]:=by simp[bl]
 rw[e];rfl;have pZ:IntKind.i64.wrap (64*((bt w).length:Int))=((List.range 64).length:Int):=by rw[pK h,List.length_range];exact wr (by simp) (by simp)
 have:=eP (l:=List.range 64) (by simp) (F:=fun m z s=>DK (bt w) n m z s) (fun i s=>s=(((List.range 64).take i).filter fun i=>w.testBit i).map fun(i:Nat)=>(i:Int)) (Q:=fun r=>r=bl w)
  (fun m i x s hx hlt hd' hw' hI ih=>by
   have hxi:x=i:=by rw[List.getElem?_range (by simpa using hlt)]at hx;exact(Option.some.inj hx).symm
   subst hxi;have hlen:s.length<=64:=by rw[hI,yA];refine Nat.le_trans (List.length_filter_le _ _) ?_;rw[List.length_take,List.length_range];omega
   rw[List.length_range]at hlt;simp only[DK,pZ,hd',zC,Vu hw hlt,aM,X4,hw'];cases hb:w.testBit x with
   |true=>simp only[zC];rw[gI (by omega)];refine ih _ ?_;rw[gQ hx,List.filter_append,List.map_append,hI];simp[hb]|false=>simp only[zD];refine ih _ ?_;rw[gQ hx,List.filter_append,List.map_append,hI];simp[hb])
  (fun m s hd' hI=>by simp only[DK,pZ,hd',zD,Gi];rw[zW (zF _)]at hI;exact⟨s,rfl,hI⟩) n 0 [] (by simp;omega) (by omega) (by simp)
 obtain⟨r,h1,h2⟩:=this;rw[<-h2];rw[zV]at h1;exact h1
theorem qj(hw:w<4096)(hn:100<=n):R8 n (bt w)=some ((bl w).length:Int):=by rw[R8,lq hw hn];rfl
theorem Yv(hn:5<=n):G0 n (bt a) (bt b)=some (decide (a=b)):=by
 obtain⟨k,rfl⟩:=Nat.exists_eq_add_of_le' hn;by_cases ha:a=0;subst ha;by_cases hb:b=0;subst hb;rfl;rw[pK hb];simp[IM,G0,Ne.symm hb];by_cases hb:b=0;subst hb;rw[pK ha];simp[IM,G0,ha];have e:G0 (k+5) [(a:Int)] [(b:Int)]=cond ((a:Int) != (b:Int)) (some false) (some true):=rfl;rw[pK ha,pK hb,e];by_cases h:a=b;subst h;simp;have:((a:Int) != (b:Int))=true:=by simp;omega
 simp[this,h]
theorem YR{ws:List Nat}(hl:ws.length<=1000)(hn:5000<=n):Ds n (ws.map bt) (bt b)=some (decide (b∈ws)):=by
 have:=eP (l:=ws) (by omega) (F:=fun m z (_:Unit)=>L1 (ws.map bt) (bt b) n m z) (fun i _=>b ∉ ws.take i) (Q:=fun r=>r=decide (b∈ws))
  (fun m i x _ hx hlt hd' hw hI ih=>by
   have oT:(ws.map bt)[i]? = some (bt x):=by rw[List.getElem?_map,hx];rfl
   simp only[L1,yA,hd',zC,cP,oT,aM,Yv (a:=x) (b:=b) (n:=n) (by omega),hw];by_cases e:x=b;simp only[e,yC,zC];exact⟨true,rfl,(decide_eq_true (e ▸ zX hx)).symm⟩;simp only[e,yB,zD];refine ih () ?_;rw[gQ hx];simp[hI,Ne.symm e])
  (fun m _ hd' hI=>by simp only[L1,yA,hd',zD,Fc];rw[zW (zF _)]at hI;exact⟨false,rfl,(decide_eq_false hI).symm⟩) n 0 () (by omega) (by omega) (by simp)
 obtain⟨r,h1,h2⟩:=this;rw[<-h2];rw[zV]at h1;exact h1
def xI(l:List Nat):Nat:=l.foldl (fun w i=>w|||2^i) 0
theorem Kh:∀(l:List Nat)(w:Nat),(∀i∈l,i<12)->w<4096->l.foldl (fun w i=>w|||2^i) w<4096
 |[],w,_,h=>h|i::l,w,hl,h=>Kh l _ (fun j hj=>hl j (by simp[hj])) (Nat.or_lt_two_pow (n:=12) h (Nat.pow_lt_pow_right (by omega) (hl i (by simp))))
theorem Vm(j:Nat):∀(l:List Nat)(w:Nat),(l.foldl (fun w i=>w|||2^i) w).testBit j=(w.testBit j||decide (j∈l))
 |[],w=>by simp
 |i::l,w=>by rw[List.foldl_cons,Vm j l,Nat.testBit_or,Nat.testBit_two_pow];by_cases e:i=j;subst e;simp;have:¬ j=i:=fun h=>e h.symm;simp[e,this,Bool.or_assoc]
theorem Y5{l:List Nat}(hl:l.length<=12)(eW:∀i∈l,i<12)(hn:5000<=n):VB n (l.map fun(i:Nat)=>(i:Int))=some (bt (xI l),0):=by
 have hrep:List.replicate (64:Int).toNat (0:Int)=((0:Nat):Int)::List.replicate 63 0:=rfl;have:=eP (l:=l) (by omega) (F:=fun m z s=>L2 (l.map fun(i:Nat)=>(i:Int)) n m z s) (fun i s=>s=(((l.take i).foldl (fun w i=>w|||2^i) 0:Nat):Int)::List.replicate 63 0) (Q:=fun r=>r=(bt (xI l),0))
  (fun m i x s hx hlt hd' hw hI ih=>by
   have Sh:=eW x (zX hx);have oT:(l.map fun(i:Nat)=>(i:Int))[i]? = some (x:Int):=by rw[List.getElem?_map,hx];rfl
   have e1:decide ((x:Int)<0)=false:=by simp
   have e2:decide ((x:Int)>4095)=false:=by simp;omega
   have e3:IntKind.i64.wrap ((x:Int).tdiv 64)=0:=by rw[Int.tdiv_eq_ediv_of_nonneg (by omega),show(x:Int)/64=0 by omega];exact wr (by omega) (by omega)
   have e4:(x:Int).tmod 64=(x:Int):=by rw[Int.tmod_eq_emod_of_nonneg (by omega)];omega
   have e5:IntKind.u64.wrap (x:Int)=(x:Int):=wu (by omega);have e6:min ((x:Int).toNat) IntKind.u64.bits=x:=by rw[zZ];exact Nat.min_eq_left (by show x<=64;omega)
   have oU:(l.take i).foldl (fun w i=>w|||2^i) 0<4096:=Kh _ 0 (fun j hj=>eW j (List.mem_of_mem_take hj)) (by omega);have hp:2^x<4096:=Nat.pow_lt_pow_right (n:=12) (by omega) Sh;have e7:IntKind.u64.wrap (1*(2^x:Int))=((2^x:Nat):Int):=by rw[Int.one_mul,show(2:Int)^x=((2^x:Nat):Int) by simp];exact wu (by omega)
   have e8:jM s 0 ((64:Int).toNat) 0=some (((l.take i).foldl (fun w i=>w|||2^i) 0:Nat):Int):=by rw[hI];rfl
   have e9:=nv (a:=(l.take i).foldl (fun w i=>w|||2^i) 0) (b:=2^x) (by omega) (by omega);simp only[L2,yA,hd',zC,cP,oT,aM,e1,e2,zD,e3,e4,e5,e6,e7,e8,e9,hw];rw[gI (by omega)];refine ih _ ?_;rw[gQ hx,List.foldl_append,hI];rfl)
  (fun m s hd' hI=>by
   simp only[L2,yA,hd',zD,Fg];rw[zW (zF _)]at hI;have h1:BP n s=some (bt (xI l)):=by rw[hI];exact Me (k:=63) (by omega) 63 n (by omega) (by omega)
   rw[gI (by rw[hI];rfl),h1];exact⟨_,rfl,rfl⟩) n 0 _ (by omega) (by omega) rfl
 obtain⟨r,h1,h2⟩:=this;rw[zV]at h1;rw[VB,gI (by decide),hrep,<-h2];exact h1
inductive jB(d:List aT)(s:Str):Str->Prop
 |refl:jB d s s
 |step {t u:Str} {x:aT}:jB d s t->x∈d->x.Name=t->u∈x.Supers->jB d s u
variable{d:List aT}
variable{s:Str}
theorem jB.trans{t u:Str}(h:jB d s t)(h':jB d t u):jB d s u:=by
 induction h' with|refl=>exact h|step _ h2 h3 h4 ih=>exact .step ih h2 h3 h4
structure WL(d:List aT)(P:Str->Prop)(l:List Str):Prop where
 nod:l.Nodup
 mem:∀s∈l,g9 d s/\P s
variable{l:List Str}
theorem WL.len{P:Str->Prop}(h:WL d P l):l.length<=d.length:=by
 have:=VT (b:=d.map aT.Name) h.nod fun s hs=>by obtain⟨x,hx,rfl⟩:=(h.mem s hs).1;exact List.mem_map_of_mem hx
 rwa [yA]at this
theorem WL.snoc{d:List aT}{P:Str->Prop}{l:List Str}(h:WL d P l){s:Str}(hn:s ∉ l)(hs:g9 d s/\P s):WL d P (l++[s]):=by
 refine⟨?_,fun t ht=>?_⟩;rw[List.nodup_append];exact⟨h.nod,by simp,fun a ha b hb e=>by simp at hb;subst hb;subst e;exact hn ha⟩;rcases yD.1 ht with ht |ht;exact h.mem t ht;simp at ht;subst ht;exact hs
variable{n:Nat}
theorem Xn(hl:l.length<=1000)(hn:5000<=n):(∃out,G7 n l n [] 0=some out/\oJ [] l out)/\∃out,G8 n l n [] 0=some out/\oJ [] l out:=by
 constructor;have:=eP (l:=l) (by omega) (F:=fun m z s=>G7 n l m s z) (fun i s=>oJ [] (l.take i) s) (Q:=fun out=>oJ [] l out)
  (fun m i x s hx hlt hd' hw hI ih=>by have hl:=hI.len;simp at hl;obtain⟨o,h1,h2,h3,h4⟩:=QC (l:=s) (by omega) hI.asc x (show s.length<n by omega);simp only[G7,hd',zC,cP,hx,aM,h1,hw];exact ih o (by rw[gQ hx];exact hI.next h2 h3 h4))
  (fun m s hd' hI=>by simp only[G7,hd',zD,Hg];rw[zW (zF _)]at hI;exact⟨s,rfl,hI⟩) n 0 [] (by omega) (by omega) (oJ.nil List.Pairwise.nil)
 rw[zV]at this;exact this;have:=eP (l:=l) (by omega) (F:=fun m z s=>G8 n l m s z) (fun i s=>oJ [] (l.take i) s) (Q:=fun out=>oJ [] l out)
  (fun m i x s hx hlt hd' hw hI ih=>by have hl:=hI.len;simp at hl;obtain⟨o,h1,h2,h3,h4⟩:=QC (l:=s) (by omega) hI.asc x (show s.length<n by omega);simp only[G8,hd',zC,cP,hx,aM,h1,hw];exact ih o (by rw[gQ hx];exact hI.next h2 h3 h4))
  (fun m s hd' hI=>by simp only[G8,hd',zD,Hk];rw[zW (zF _)]at hI;exact⟨s,rfl,hI⟩) n 0 [] (by omega) (by omega) (oJ.nil List.Pairwise.nil)
 rw[zV]at this;exact this
theorem bi(h:pH d)(hs:g9 d s)(hn:5000<=n):∃l,WG n d s=some l/\dA l/\l.length<=12/\∀x,x∈l↔g9 d x/\jB d x s:=by
 have hd:=h.len;have key:∀(m i:Nat)(l:List Str),d.length+1-i<=m->i<=l.length->WL d (fun x=>jB d x s) l->s∈l->(∀y∈l.take i,∀x∈d,y∈x.Supers->x.Name∈l)->
   ∃r,BV d n m i l=some r/\dA r/\r.length<=12/\∀x,x∈r↔g9 d x/\jB d x s:=by
  intro m;induction m with
  |zero=>intro i l hm hi hw;have:=hw.len;omega|succ m ih=>
   intro i l hm hi hw hsl hcl;have hll:=hw.len;unfold BV;by_cases hlt:i<l.length;obtain⟨y,hy,hym⟩:=fB hlt;simp only[kB hlt,zC];have:=eP (l:=d) (by omega) (F:=fun m' z (l':List Str)=>DO d n i (BV d n m) m' z l') (fun k l'=>WL d (fun x=>jB d x s) l'/\(∃t,l'=l++t)/\∀x∈d.take k,y∈x.Supers->x.Name∈l') (Q:=fun r=>dA r/\r.length<=12/\∀x,x∈r↔g9 d x/\jB d x s)
    (fun m' k x l' hx lO hd' hw' hI fZ=>by
     obtain⟨vF,⟨t,eV⟩,vE⟩:=hI;have hxm:=zX hx;have hl'':=vF.len;have hy':l'[i]? = some y:=by rw[eV,List.getElem?_append_left hlt];exact hy
     have hss:=(h.siz x hxm).1;simp only[DO,hd',zC,cP,hx,aM,hy',D7 (l:=x.Supers) (by omega) y (n:=n) (by omega),D7 (l:=l') (by omega) x.Name (n:=n) (by omega),X9,hw'];by_cases h1:y∈x.Supers;by_cases h2:x.Name∈l';simp only[h1,h2,yC,zC,aM,Bool.not_true,zD];refine fZ l' ⟨vF,⟨t,eV⟩,fun z hz hyz=>?_⟩;rw[gQ hx]at hz;rcases yD.1 hz with hz |hz;exact vE z hz hyz;simp at hz;subst hz;exact h2;simp only[h1,h2,yC,yB,zC,aM,Bool.not_false];rw[gI (by omega)];have hys:=(hw.mem y hym).2;refine fZ (l'++[x.Name]) ⟨vF.snoc h2 ⟨⟨x,hxm,rfl⟩,(jB.step .refl hxm rfl h1).trans hys⟩,⟨t++[x.Name],by rw[eV,zT]⟩,fun z hz hyz=>?_⟩;rw[gQ hx]at hz;rcases yD.1 hz with hz |hz;exact List.mem_append_left _ (vE z hz hyz);simp at hz;subst hz;simp;simp only[h1,yB,zD,aM];refine fZ l' ⟨vF,⟨t,eV⟩,fun z hz hyz=>?_⟩;rw[gQ hx]at hz;rcases yD.1 hz with hz |hz;exact vE z hz hyz;simp at hz;subst hz;exact absurd hyz h1)
    (fun m' l' hd' hI=>by
     obtain⟨vF,⟨t,eV⟩,vE⟩:=hI;rw[zW (zF _)]at vE;simp only[DO,hd',zD,Hf,mH hlt (show l.length<=9223372036854775807 by omega)];refine ih (i+1) l' (by omega) (by rw[eV];simp;omega) vF (by rw[eV];exact List.mem_append_left _ hsl) fun z hz x hx hzx=>?_;rw[eV,List.take_append_of_le_length (by omega),gQ hy]at hz;rcases yD.1 hz with hz |hz
     rw[eV];exact List.mem_append_left _ (hcl z hz x hx hzx);simp at hz;subst hz;exact vE x hx hzx) n 0 l (by omega) (by omega) ⟨hw,⟨[],by simp⟩,by simp⟩
   rw[zV]at this;exact this;have hi':i=l.length:=by omega
   subst hi';rw[zW (zF _)]at hcl;simp only[kL hlt,zD,Hh];obtain⟨out,g1,g2⟩:=(Xn (l:=l) (by omega) hn).1;have hlen:=g2.len;simp at hlen;refine⟨out,g1,g2.asc,by omega,fun x=>?_⟩;rw[g2.mem];simp only[List.not_mem_nil,false_or];constructor;exact fun hx=>hw.mem x hx;rintro⟨_,hu⟩;have:∀{t:Str},jB d x t->t∈l->x∈l:=by
    intro t ht;induction ht with
    |refl=>exact id|step _ h2 h3 h4 ih=>exact fun hu=>ih (h3 ▸ hcl _ hu _ h2 h4)
   exact this hu hsl
 obtain⟨j,x,g1,g2,g3⟩:=Ox (d:=d) (by omega) hs (n:=n) (by omega);have hj:¬ (j:Int)<0:=by omega
 simp only[WG,g3,aM,hj,yB,zD];have:=key n 0 [s] (by omega) (by omega) ⟨by simp,fun t ht=>by simp at ht;subst ht;exact⟨hs,.refl⟩⟩ (by simp) (by simp);rw[zV]at this;exact this
theorem wc(h:UQ d){x y:aT}(hx:x∈d)(hy:y∈d)(e:x.Name=y.Name):x=y:=by
 have:=h.nod;clear h;induction d with
 |nil=>cases hx|cons z d ih=>rw[zQ,List.nodup_cons]at this;rcases zI.1 hx with h1 |h1;rcases zI.1 hy with h2 |h2;rw[h1,h2];exact absurd (List.mem_map.2 ⟨y,h2,by rw[<-e,h1]⟩) this.1;rcases zI.1 hy with h2 |h2;exact absurd (List.mem_map.2 ⟨x,h1,by rw[e,h2]⟩) this.1;exact ih h1 h2 this.2
theorem br(h:pH d)(hs:g9 d s)(hn:5000<=n):∃l,WH n d s=some l/\dA l/\l.length<=12/\∀x,x∈l↔g9 d x/\jB d s x:=by
 have hd:=h.len;have key:∀(m i:Nat)(l:List Str),d.length+1-i<=m->i<=l.length->WL d (fun x=>jB d s x) l->s∈l->(∀y∈l.take i,∀x∈d,x.Name=y->∀u∈x.Supers,u∈l)->
   ∃r,BW d n m i l=some r/\dA r/\r.length<=12/\∀x,x∈r↔g9 d x/\jB d s x:=by
  intro m;induction m with
  |zero=>intro i l hm hi hw;have:=hw.len;omega|succ m ih=>
   intro i l hm hi hw hsl hcl;have hll:=hw.len;unfold BW;by_cases hlt:i<l.length;obtain⟨y,hy,hym⟩:=fB hlt;obtain⟨j,x,g1,g2,g3⟩:=Ox (d:=d) (by omega) (hw.mem y hym).1 (n:=n) (by omega);have hxm:=zX g1;have hss:=(h.siz x hxm).1;simp only[kB hlt,zC,cP,hy,aM,g3,g1];have:=eP (l:=x.Supers) (by omega) (F:=fun m' z (l':List Str)=>DP n i (BW d n m) x m' z l') (fun k l'=>WL d (fun x=>jB d s x) l'/\(∃t,l'=l++t)/\∀u∈x.Supers.take k,u∈l') (Q:=fun r=>dA r/\r.length<=12/\∀x,x∈r↔g9 d x/\jB d s x)
    (fun m' k u l' hu lO hd' hw' hI fZ=>by obtain⟨vF,⟨t,eV⟩,vE⟩:=hI;have hum:=zX hu;have hl'':=vF.len;simp only[DP,hd',zC,cP,hu,aM,D7 (l:=l') (by omega) u (n:=n) (by omega),XA,hw'];by_cases h2:u∈l';simp only[h2,yC,Bool.not_true,zD];refine fZ l' ⟨vF,⟨t,eV⟩,fun z hz=>?_⟩;rw[gQ hu]at hz;rcases yD.1 hz with hz |hz;exact vE z hz;simp at hz;subst hz;exact h2;simp only[h2,yB,Bool.not_false,zC];rw[gI (by omega)];refine fZ (l'++[u]) ⟨vF.snoc h2 ⟨(h.sup x hxm).1 u hum,.step (hw.mem y hym).2 hxm g2 hum⟩,⟨t++[u],by rw[eV,zT]⟩,fun z hz=>?_⟩;rw[gQ hu]at hz;rcases yD.1 hz with hz |hz;exact List.mem_append_left _ (vE z hz);simp at hz;subst hz;simp)
    (fun m' l' hd' hI=>by
     obtain⟨vF,⟨t,eV⟩,vE⟩:=hI;rw[zW (zF _)]at vE;simp only[DP,hd',zD,Hj,mH hlt (show l.length<=9223372036854775807 by omega)];refine ih (i+1) l' (by omega) (by rw[eV];simp;omega) vF (by rw[eV];exact List.mem_append_left _ hsl) fun z hz w hw' hzw u hu=>?_;rw[eV,List.take_append_of_le_length (by omega),gQ hy]at hz;rcases yD.1 hz with hz |hz
     rw[eV];exact List.mem_append_left _ (hcl z hz w hw' hzw u hu);simp at hz;subst hz;have:=wc h.nam hw' hxm (hzw.trans g2.symm);subst this;exact vE u hu) n 0 l (by omega) (by omega) ⟨hw,⟨[],by simp⟩,by simp⟩
   rw[zV]at this;exact this;have hi':i=l.length:=by omega
   subst hi';rw[zW (zF _)]at hcl;simp only[kL hlt,zD,Hl];obtain⟨out,g1,g2⟩:=(Xn (l:=l) (by omega) hn).2;have hlen:=g2.len;simp at hlen;refine⟨out,g1,g2.asc,by omega,fun x=>?_⟩;rw[g2.mem];simp only[List.not_mem_nil,false_or];constructor;exact fun hx=>hw.mem x hx;rintro⟨_,hu⟩;clear g1 g2;induction hu with
   |refl=>exact hsl|step h1 h2 h3 h4 ih=>exact hcl _ (ih ⟨_,h2,h3⟩) _ h2 h3 _ h4
 obtain⟨j,x,g1,g2,g3⟩:=Ox (d:=d) (by omega) hs (n:=n) (by omega);have hj:¬ (j:Int)<0:=by omega
 simp only[WH,g3,aM,hj,yB,zD];have:=key n 0 [s] (by omega) (by omega) ⟨by simp,fun t ht=>by simp at ht;subst ht;exact⟨hs,.refl⟩⟩ (by simp) (by simp);rw[zV]at this;exact this
theorem yh(h:pH d){a b:Str}(ha:g9 d a)(hb:g9 d b)(h1:jB d a b)(h2:jB d b a):a=b:=by
 obtain⟨l,hl,hlen⟩:=h.ord;have hall:∀s,g9 d s->s∈l:=fun s ⟨x,hx,e⟩=>by
  apply Classical.byContradiction;intro hn;have h3:=VT (a:=s::l) (b:=d.map aT.Name) (List.nodup_cons.2 ⟨hn,hl.nodup.1⟩) fun t ht=>by rcases zI.1 ht with rfl |ht;rw[<-e];exact List.mem_map_of_mem hx;obtain⟨y,hy,rfl⟩:=hl.nodup.2 t ht;exact List.mem_map_of_mem hy
  simp at h3;omega
 have hpre:∀{l:List Str},Ord d l->∀s∈l,∀t,jB d s t->∃l1 l2,l=l1++s::l2/\(t=s\/t∈l1):=by
  intro l hl;induction hl with
  |nil=>intro s hs;cases hs| @snoc l x g1 g2 g3 g4 ih=>
   have hcl:∀s∈l,∀t,jB d s t->t∈l:=fun s hs t ht=>by obtain⟨l1,l2,e1,e2⟩:=ih s hs t ht;rcases e2 with rfl |e2;exact hs;rw[e1];exact List.mem_append_left _ e2
   intro s hs t ht;rcases yD.1 hs with hs |hs;obtain⟨l1,l2,e1,e2⟩:=ih s hs t ht;exact⟨l1,l2++[x.Name],by rw[e1];simp,e2⟩;simp at hs;subst hs;refine⟨l,[],rfl,?_⟩;induction ht with
   |refl=>exact .inl rfl|step _ h2 h3 h4 fZ=>rcases fZ with e |e;have:=wc h.nam h2 g2 (h3.trans e);subst this;exact .inr (g4 _ h4);exact .inr (hcl _ e _ (.step .refl h2 h3 h4))
 obtain⟨l1,l2,e1,e2⟩:=hpre hl a (hall a ha) b h1;obtain⟨l3,l4,e3,e4⟩:=hpre hl b (hall b hb) a h2;rcases e2 with e2 |e2;exact e2.symm;rcases e4 with e4 |e4;exact e4
 ·-- b ahead of a,and a ahead of b
  have hn:=hl.nodup.1;obtain⟨p,q,e5⟩:=List.append_of_mem e2;rw[e5]at e1;have:l3=p:=by
   have hb1:b ∉ p:=fun hp=>by rw[e1]at hn;simp only[zT,List.cons_append]at hn;rw[List.nodup_append]at hn;exact hn.2.2 b hp b (by simp) rfl
   have hb3:b ∉ l3:=fun hp=>by rw[e3,List.nodup_append]at hn;exact hn.2.2 b hp b (by simp) rfl
   rw[e1]at e3;simp only[zT,List.cons_append]at e3;clear e1 hn e5 e4 hl;induction p generalizing l3 with
   |nil=>rcases l3 with _|⟨z,l3⟩;rfl;simp at e3;exact absurd (by rw[e3.1];simp) hb3
   |cons y p ihp=>rcases l3 with _|⟨z,l3⟩;simp at e3;exact absurd (by rw[<-e3.1];simp) hb1;simp at e3;rw[<-e3.1,ihp l3 (fun hh=>hb1 (List.mem_cons_of_mem _ hh)) (fun hh=>hb3 (List.mem_cons_of_mem _ hh)) e3.2]
  rw[this]at e4;rw[e1]at hn;exact absurd rfl ((List.nodup_append.1 hn).2.2 a (List.mem_append_left _ e4) a (by simp))
theorem dh(h:pH d)(hl:l.length<=1000)(hn:5000<=n):∃out,Hb n d l=some out/\dA out/\out.length<=l.length/\∀x∈out,x∈l/\g9 d x:=by
 have hd:=h.len;have:=eP (l:=l) (by omega) (F:=fun m z s=>DU d l n m s z) (fun i s=>dA s/\s.length<=i/\∀x∈s,x∈l/\g9 d x) (Q:=fun out=>dA out/\out.length<=l.length/\∀x∈out,x∈l/\g9 d x)
  (fun m i x s hx hlt hd' hw hI ih=>by
   obtain⟨i1,i2,i3⟩:=hI;simp only[DU,hd',zC,cP,hx,aM,XM,hw];rcases Dv (d:=d) (by omega) x (show d.length<n by omega)with⟨j,y,g1,g2,g3,g4⟩|⟨g1,g2⟩;obtain⟨o,h1,h2,h3,h4⟩:=QC (l:=s) (by omega) i1 x (show s.length<n by omega);have hj:(j:Int)>=0:=by omega
   simp only[g4,aM,hj,yC,zC,h1];refine ih o ⟨h4,by omega,fun z hz=>?_⟩;rcases(h2 z).1 hz with rfl |hz;exact⟨zX hx,y,zX g1,g2⟩;exact i3 z hz;simp only[g2,aM];exact ih s ⟨i1,by omega,i3⟩)
  (fun m s hd' hI=>by simp only[DU,hd',zD,Ik];exact⟨s,rfl,hI⟩) n 0 [] (by omega) (by omega) ⟨List.Pairwise.nil,by simp,by simp⟩
 rw[zV]at this;exact this
theorem wx(h:pH d)(hl:l.length<=1000)(hn:5000<=n):∃out,RR n d l=some out/\out.length<=l.length/\∀x∈out,x∈l/\g9 d x:=by
 obtain⟨all,a1,a2,a3,a4⟩:=dh h hl hn;have:=eP (l:=all) (by omega) (F:=fun m z s=>xB d n all m z s) (fun i s=>s.length<=i/\∀x∈s,x∈l/\g9 d x) (Q:=fun out=>out.length<=l.length/\∀x∈out,x∈l/\g9 d x)
  (fun m i x s hx hlt hd' hw hI ih=>by
   obtain⟨i2,i3⟩:=hI;have hxm:=a4 x (zX hx);obtain⟨up,u1,u2,u3,u4⟩:=br h hxm.2 hn;simp only[xB,hd',zC,cP,hx,aM,u1];have:=eP (l:=all) (by omega) (F:=fun m' z b=>LN n all i s (xB d n all m) up m' b z) (fun _ _=>True) (Q:=fun out=>out.length<=l.length/\∀x∈out,x∈l/\g9 d x)
    (fun m' k y b hy lO bX kT _ fZ=>by
     simp only[LN,bX,zC,kT,cP,hy,aM,D7 (l:=up) (by omega) y (n:=n) (by omega)];cases b with
     |true=>rcases((k:Int)==(i:Int))with _|_;exact fZ _ trivial;exact fZ true trivial
     |false=>exact fZ false trivial)
    (fun m' b bX _=>by
     simp only[LN,bX,zD,Ih,XL,hw,cP,hx,aM];cases b with
     |true=>simp only[zC];rw[gI (by omega)];refine ih (s++[x]) ⟨by simp;omega,fun z hz=>?_⟩;rcases yD.1 hz with hz |hz;exact i3 z hz;simp at hz;subst hz;exact hxm
     |false=>exact ih s ⟨by omega,i3⟩) n 0 true (by omega) (by omega) trivial
   rw[zV]at this;exact this)
  (fun m s hd' hI=>by simp only[xB,hd',zD,Ii];exact⟨s,rfl,by omega,hI.2⟩) n 0 [] (by omega) (by omega) ⟨by simp,by simp⟩
 rw[zV]at this;rw[RR,a1];exact this
variable{d:List aT}
variable{n:Nat}
theorem mq(h:pH d){all:List Str}(hal:all.length<=12){s:Str}(hs:g9 d s)(ha:∀x∈all,g9 d x)(hn:5000<=n):∃w,W4 n d all s=some (bt w)/\w<4096/\∀i,w.testBit i=true↔∃t,all[i]? = some t/\jB d t s:=by
 obtain⟨low,b1,b2,b3,b4⟩:=bi h hs hn;have:=eP (l:=all) (by omega) (F:=fun m z (s:List Nat)=>DI all n low m z (s.map fun(i:Nat)=>(i:Int))) (fun i s=>s.length<=i/\∀j,j∈s↔j<i/\∃t,all[j]? = some t/\t∈low) (Q:=fun r=>∃w,r=bt w/\w<4096/\∀i,w.testBit i=true↔∃t,all[i]? = some t/\jB d t s)
  (fun m i x s' hx hlt hd' hw hI ih=>by
   obtain⟨i1,i2⟩:=hI;simp only[DI,hd',zC,cP,hx,aM,D7 (l:=low) (by omega) x (n:=n) (by omega),X3,hw,yA];by_cases hm:x∈low;simp only[hm,yC,zC];rw[gI (by omega)];have:=ih (s'++[i]) ⟨by simp;omega,fun j=>by rw[yD,i2,List.mem_singleton];constructor;rintro(⟨h1,h2⟩|rfl);exact⟨by omega,h2⟩;exact⟨by omega,x,hx,hm⟩;rintro⟨h1,h2⟩;by_cases e:j=i;exact .inr e;exact .inl ⟨by omega,h2⟩⟩;rw[List.map_append]at this;exact this;simp only[hm,yB,zD];exact ih s' ⟨by omega,fun j=>by
    rw[i2];constructor;rintro⟨h1,h2⟩;exact⟨by omega,h2⟩;rintro⟨h1,t,h2,h3⟩;refine⟨?_,t,h2,h3⟩;have:j≠i:=fun e=>by subst e;rw[hx]at h2;cases h2;exact hm h3
    omega⟩)
  (fun m s' hd' hI=>by
   obtain⟨i1,i2⟩:=hI;have eW:∀i∈s',i<12:=fun i hi=>by have:=((i2 i).1 hi).1;omega
   simp only[DI,hd',zD,Gc,Y5 (l:=s') (by omega) eW hn,aM];refine⟨_,rfl,xI s',rfl,Kh s' 0 eW (by omega),fun i=>?_⟩;rw[xI,Vm];simp only[Nat.zero_testBit,Bool.false_or,decide_eq_true_eq];rw[i2];constructor;rintro⟨_,t,h1,h2⟩;exact⟨t,h1,((b4 t).1 h2).2⟩;rintro⟨t,h1,h2⟩;exact⟨(zG.1 h1).1,t,h1,(b4 t).2 ⟨ha t (zX h1),h2⟩⟩) n 0 [] (by omega) (by omega) ⟨by simp,fun j=>by simp⟩
 obtain⟨r,h1,w,rfl,h2,h3⟩:=this;rw[zV]at h1;exact⟨w,by simp only[W4,b1,aM];exact h1,h2,h3⟩
structure FI(c0 ws:List Nat):Prop where
 pre:∃t,ws=c0++t
 nod:ws.Nodup
 ok:∀a∈ws,a<4096/\a≠0/\∃b∈c0,a&&&b=a
 len:ws.length<=257
def AC(ws:List Nat)(i k:Nat):Prop:=∀i' k' a b,k'<i'->(i'<i\/(i'=i/\k'<k))->ws[i']? = some a->ws[k']? = some b->a&&&b=0\/a&&&b∈ws
variable{ws:List Nat}
theorem AC.app{t:List Nat}{i k:Nat}(h:AC ws i k)(hi:i<ws.length):AC (ws++t) i k:=fun i' k' a b h1 h2 h3 h4=>by
 have e1:i'<ws.length:=by omega
 rw[List.getElem?_append_left e1]at h3;rw[List.getElem?_append_left (by omega)]at h4;rcases h i' k' a b h1 h2 h3 h4 with h5 |h5;exact .inl h5;exact .inr (List.mem_append_left _ h5)
theorem Cs{c0:List Nat}{n:Nat}(hn:5000<=n){i:Nat}{rc:Int->List (List Int)->Option (List (List Int))}{Q:List (List Int)->Prop}(y4:i<=256)(hrc:∀ws',FI c0 ws'->i<ws'.length->(ws'.length<=256->AC ws' (i+1) 0)->∃r,rc ((i+1:Nat):Int) (ws'.map bt)=some r/\Q r):
  ∀(m k:Nat)(ws:List Nat),i-k<m->k<=i->FI c0 ws->i<ws.length->(ws.length<=256->AC ws i k)->∃r,G9 n i rc m k (ws.map bt)=some r/\Q r
 |0,k,ws,hm,_,_,_,_=>by omega
 |m+1,k,ws,hm,hk,hf,hi,hc=>by
  have hl:=hf.len;have hwi:IntKind.i64.wrap ((i:Int)+1)=((i+1:Nat):Int):=IU (by omega) (by omega);unfold G9;by_cases hlt:k<i;have e0:decide ((k:Int)<(i:Int))=true:=by simp;omega
  simp only[e0,zC,yA];by_cases rE:ws.length<=256;obtain⟨a,ha,ham⟩:=fB hi;obtain⟨b,hb,hbm⟩:=fB (show k<ws.length by omega);have e1:decide ((ws.length:Int)<=256)=true:=by simp;omega
  have ga:(ws.map bt)[i]? = some (bt a):=by rw[List.getElem?_map,ha];rfl
  have gb:(ws.map bt)[k]? = some (bt b):=by rw[List.getElem?_map,hb];rfl
  have hwk:IntKind.i64.wrap ((k:Int)+1)=((k+1:Nat):Int):=IU (by omega) (by omega);have oka:=hf.ok a ham;have okb:=hf.ok b hbm;simp only[e1,aM,zC,cP,ga,gb,Wj oka.1 okb.1 (show 5<=n by omega),YR (ws:=ws) (by omega) (b:=a&&&b) hn,XF,hwk];have hcs:∀t,(a&&&b=0\/a&&&b∈ws++t)->AC (ws++t) i (k+1):=fun t ht i' k' x y h1 h2 h3 h4=>by by_cases e:i'=i/\k'=k;obtain⟨rfl,rfl⟩:=e;rw[List.getElem?_append_left hi,ha]at h3;rw[List.getElem?_append_left (by omega),hb]at h4;cases h3;cases h4;exact ht;exact(hc rE).app hi i' k' x y h1 (by omega) h3 h4
  by_cases hz:a&&&b=0;have e2:decide (((bt (a&&&b)).length:Int)>0)=false:=by rw[hz];simp[IM]
  simp only[e2,zD,aM];refine Cs hn y4 hrc m (k+1) ws (by omega) (by omega) hf hi fun _=>?_;have:=hcs [] (.inl hz)
  rwa [List.append_nil]at this
  have e2:decide (((bt (a&&&b)).length:Int)>0)=true:=by rw[pK hz];simp
  simp only[e2,zC,aM];by_cases hm':a&&&b∈ws;simp only[hm',yC,Bool.not_true,zD];refine Cs hn y4 hrc m (k+1) ws (by omega) (by omega) hf hi fun _=>?_;have:=hcs [] (.inr (by simpa using hm'))
  rwa [List.append_nil]at this
  simp only[hm',yB,Bool.not_false,zC];rw[gI (by omega)];have hf':FI c0 (ws++[a&&&b]):=by obtain⟨t,ht⟩:=hf.pre;refine⟨⟨t++[a&&&b],by rw[ht,zT]⟩,?_,fun c hc=>?_,by simp;omega⟩;rw[List.nodup_append];exact⟨hf.nod,by simp,fun x hx y hy e=>by simp at hy;subst hy;subst e;exact hm' hx⟩;rcases yD.1 hc with hc |hc;exact hf.ok c hc;simp at hc;subst hc;obtain⟨g,hg,eg⟩:=oka.2.2;refine⟨Nat.lt_of_le_of_lt Nat.and_le_left oka.1,hz,g,hg,?_⟩;rw[Nat.and_assoc,Nat.and_comm b g,<-Nat.and_assoc,eg]
  have:=Cs hn y4 hrc m (k+1) (ws++[a&&&b]) (by omega) (by omega) hf' (by simp;omega) fun _=>hcs [a&&&b] (.inr (by simp));rw[List.map_append]at this;exact this;have e1:decide ((ws.length:Int)<=256)=false:=by simp;omega
  simp only[e1,aM,zD,XD,hwi];exact hrc ws hf hi fun h=>absurd h rE;have e0:decide ((k:Int)<(i:Int))=false:=by simp;omega
  simp only[e0,zD,aM,XD,hwi];refine hrc ws hf hi fun h i' k' a b h1 h2 h3 h4=>hc h i' k' a b h1 (by omega) h3 h4
theorem Wc{c0:List Nat}{n:Nat}(hn:5000<=n):∀(m i:Nat)(ws:List Nat),258-i<=m->i<=257->FI c0 ws->i<=ws.length->(ws.length<=256->AC ws i 0)->
  ∃r,BX n m i (ws.map bt)=some r/\∃ws',r=ws'.map bt/\FI c0 ws'/\(ws'.length<=256->AC ws' ws'.length 0)
 |0,i,ws,hm,_,_,_,_=>by omega
 |m+1,i,ws,hm,hi,hf,hil,hc=>by
  have hl:=hf.len;unfold BX;simp only[yA];by_cases hlt:i<ws.length;by_cases rE:ws.length<=256;have e1:decide ((ws.length:Int)<=256)=true:=by simp;omega
  simp only[kB hlt,zC,e1,aM];have:=Cs (c0:=c0) hn (i:=i) (rc:=BX n m) (Q:=fun r=>∃ws',r=ws'.map bt/\FI c0 ws'/\(ws'.length<=256->AC ws' ws'.length 0)) (by omega) (fun ws' f1 f2 f3=>Wc hn m (i+1) ws' (by omega) (by omega) f1 (by omega) f3) n 0 ws (by omega) (by omega) hf hlt hc;rw[zV]at this;exact this;have e1:decide ((ws.length:Int)<=256)=false:=by simp;omega
  simp only[kB hlt,zC,e1,aM,zD,XE];exact⟨_,rfl,ws,rfl,hf,fun h=>absurd h rE⟩;simp only[kL hlt,zD,aM,XE];have:i=ws.length:=by omega
  exact⟨_,rfl,ws,rfl,hf,this ▸ hc⟩
def EO(ws:List Nat):Prop:=∀a∈ws,∀b∈ws,a&&&b≠0->a&&&b∈ws
theorem AC.all(h:AC ws ws.length 0):EO ws:=fun a ha b hb hne=>by
 obtain⟨i,hi,rfl⟩:=List.mem_iff_getElem.1 ha;obtain⟨k,hk,rfl⟩:=List.mem_iff_getElem.1 hb;by_cases e:i=k;subst e;rw[Nat.and_self];exact ha;by_cases hlt:k<i;exact(h i k _ _ hlt (.inl hi) (List.getElem?_eq_getElem hi) (List.getElem?_eq_getElem hk)).resolve_left hne;rw[Nat.and_comm]at hne ⊢;exact(h k i _ _ (by omega) (.inl hk) (List.getElem?_eq_getElem hk) (List.getElem?_eq_getElem hi)).resolve_left hne
theorem th{c0:List Nat}(hl:c0.length<=12)(Jb:c0.Nodup)(hc:∀a∈c0,a<4096/\a≠0)(hn:5000<=n):∃ws,WO n (c0.map bt)=some (ws.map bt)/\FI c0 ws/\(ws.length<=256->EO ws):=by
 obtain⟨r,h1,ws,rfl,h2,h3⟩:=Wc (c0:=c0) hn n 0 c0 (by omega) (by omega) ⟨⟨[],by simp⟩,Jb,fun a ha=>⟨(hc a ha).1,(hc a ha).2,a,ha,Nat.and_self a⟩,by omega⟩ (by omega) (fun _ i' k' a b h1 h2=>by omega);rw[zV]at h1;refine⟨ws,?_,h2,fun h=>(h3 h).all⟩;rw[WO,gI (by rw[yA];omega)];exact h1
theorem ML{l:List Str}(hl:l.length<=12)(hs:∀s∈l,s.length<=32)(hn:5000<=n):∃s,BQ l n [] 0=some s:=by
 have:=eP (l:=l) (by omega) (F:=fun m z s=>BQ l m s z) (fun i s=>s.length<=33*i) (Q:=fun _=>True)
  (fun m i x s hx hlt hd' hw hI ih=>by
   have hxl:=hs x (zX hx);simp only[BQ,hd',zC,WZ,cP,hx,aM,hw];cases decide ((i:Int)>0)with
   |true=>simp only[zC];rw[gI (by show s.length+1<=_;omega),gI (by rw[zU];show s.length+1+x.length<=_;omega)];exact ih _ (by rw[zU,zU];show s.length+1+x.length<=_;omega)|false=>simp only[zD];rw[gI (by omega)];exact ih _ (by rw[zU];omega))
  (fun m s hd' hI=>by simp only[BQ,hd',zD,Ga];exact⟨s,rfl,trivial⟩) n 0 [] (by omega) (by omega) (by simp)
 obtain⟨s,h1,_⟩:=this;exact⟨s,h1⟩
theorem Zq(h:pH d){all:List Str}(hal:all.length<=12){c0:List Nat}(y7:c0.length=all.length)(hc:∀a∈c0,a<4096){w:Nat}(hw:w<4096)(hn:5000<=n):
  ∃s,W3 n d all (c0.map bt) (bt w)=some s/\∀(i:Nat)(t:Str),c0.Nodup->c0[i]? = some w->all[i]? = some t->s=t:=by
 have:=eP (l:=all) (by omega) (F:=fun m z s=>DH d all (c0.map bt) (bt w) n m z s) (fun i (s:List Str)=>s.length<=i/\∀j,j<i->c0[j]? ≠some w) (Q:=fun s=>∀(i:Nat)(t:Str),c0.Nodup->c0[i]? = some w->all[i]? = some t->s=t)
  (fun m i x s hx hlt hd' hw' hI ih=>by
   obtain⟨a,ha,ham⟩:=fB (l:=c0) (show i<c0.length by omega);have ga:(c0.map bt)[i]? = some (bt a):=by rw[List.getElem?_map,ha];rfl
   simp only[DH,hd',zC,cP,ga,hx,aM,Ea (hc a ham) hw (show 5<=n by omega),Vu (w:=w) (n:=n) hw (show i<64 by omega),WY,hw'];by_cases e:a=w;subst e;simp only[yC,zC];refine⟨x,rfl,fun k t hnd hk ht=>?_⟩;obtain⟨p1,p2⟩:=zG.1 ha;obtain⟨q1,q2⟩:=zG.1 hk;have:i=k:=(List.getElem_inj hnd).1 (p2.trans q2.symm);subst this;rw[hx]at ht;exact Option.some.inj ht;have hno:∀j,j<i+1->c0[j]? ≠some w:=fun j hj=>by by_cases e2:j=i;subst e2;rw[ha];exact fun h=>e (Option.some.inj h);exact hI.2 j (by omega)
   simp only[e,yB,zD];cases w.testBit i with
   |true=>simp only[zC];rw[gI (by have:=hI.1;omega)];exact ih (s++[x]) ⟨by have:=hI.1;simp;omega,hno⟩|false=>exact ih s ⟨by have:=hI.1;omega,hno⟩)
  (fun m s hd' hI=>by obtain⟨out,m1,m2,m3⟩:=wx h (l:=s) (by have:=hI.1;omega) hn;obtain⟨r,j1⟩:=ML (l:=out) (by have:=hI.1;omega) (fun t ht=>by obtain⟨x,hx,e⟩:=(m3 t ht).2;have:=(h.nam.len x hx).2;rw[e]at this;exact this) hn;simp only[DH,hd',zD,Gb,m1,aM];refine⟨r,j1,fun i t _ hi _=>absurd hi (hI.2 i ?_)⟩;have:=(zG.1 hi).1;omega) n 0 [] (by omega) (by omega) ⟨by simp,fun j hj=>by omega⟩
 rw[zV]at this;exact this
def cw:List Int->Nat
 |[z]=>z.toNat|_=>0
theorem wL(w:Nat):cw (bt w)=w:=by
 by_cases h:w=0;subst h;rfl;rw[pK h];simp[cw]
def cnt(x:c7):Nat:=(bl (cw x.Code)).length
theorem A'{x y:c7}{a b:Nat}(hx:x.Code=bt a)(hy:y.Code=bt b)(ha:a<4096)(hb:b<4096)(hn:5000<=n):∃r,WQ n x y=some r/\(r=true->cnt y<=cnt x)/\(r=false->cnt x<=cnt y):=by
 have e1:cnt x=(bl a).length:=by rw[cnt,hx,wL]
 have e2:cnt y=(bl b).length:=by rw[cnt,hy,wL]
 rw[e1,e2];simp only[WQ,hx,hy,qj ha (show 100<=n by omega),qj hb (show 100<=n by omega),aM];by_cases h1:((bl a).length:Int)>((bl b).length:Int);simp only[h1,yC,zC,aM];exact⟨true,rfl,fun _=>by omega,fun h=>by cases h⟩;simp only[h1,yB,zD];by_cases h2:((bl a).length:Int)=((bl b).length:Int);have:(((bl a).length:Int)==((bl b).length:Int))=true:=by simpa using h2
 simp only[this,zC,aM];exact⟨_,rfl,fun _=>by omega,fun _=>by omega⟩;have:(((bl a).length:Int)==((bl b).length:Int))=false:=by simpa using h2
 simp only[this,zD,aM];exact⟨false,rfl,fun h=>(by cases h),fun _=>by omega⟩
structure CI(nm:Nat->Option Str)(ws:List Nat)(l:List c7):Prop where
 perm:(l.map c7.Code).Perm (ws.map bt)
 nam:∀w∈ws,∃x∈l,x.Code=bt w/\nm w=some x.Name
 srt:l.Pairwise fun a b=>cnt b<=cnt a
variable{nm:Nat->Option Str}
variable{l:List c7}
theorem CI.len(h:CI nm ws l):l.length=ws.length:=by
 have:=h.perm.length_eq
 rwa [yA,yA]at this
theorem CI.cod(h:CI nm ws l):∀x∈l,∃w∈ws,x.Code=bt w:=fun x hx=>by
 have:=h.perm.mem_iff.1 (List.mem_map_of_mem (f:=c7.Code) hx);obtain⟨w,hw,e⟩:=List.mem_map.1 this;exact⟨w,hw,e.symm⟩
theorem YF(h:CI nm ws l)(hl:l.length<=300)(hws:∀w∈ws,w<4096){w:Nat}(hw:w<4096){s:Str}(hs:nm w=some s)(hn:5000<=n){eX:Int}{rc:Int->List c7->Option (List c7×Int)}{Q:List c7×Int->Prop}
  (hrc:∀l',CI nm (ws++[w]) l'->∃r,rc (IntKind.i64.wrap (eX+1)) l'=some r/\Q r):
  ∀(m z:Nat),z<m->z<=l.length->(∀y∈l.drop z,cnt y<=cnt ⟨s,bt w⟩)->∃r,RY n eX l rc s (bt w) m z=some r/\Q r:=by
 have fin:∀z,z<=l.length->(∀y∈l.drop z,cnt y<=cnt ⟨s,bt w⟩)->(∀y∈l.take z,cnt ⟨s,bt w⟩<=cnt y)->∃r,X7 eX l rc s (bt w) z=some r/\Q r:=by
  intro z hz hlo hhi;have t1:((l.drop 0).take ((z:Int)).toNat)=l.take z:=by rw[List.drop_zero,zZ]
  have t2:((l.drop (0+((z:Int)).toNat)).take (l.length-((z:Int)).toNat))=l.drop z:=by rw[zZ,Nat.zero_add];exact zW (by simp)
  have tl:(l.take z).length=z:=by simp;omega
  have dl:(l.drop z).length=l.length-z:=by simp
  simp only[X7,t1,t2];rw[gI (by omega),gI (by rw[zZ];omega),gI (by rw[tl];omega),gI (by rw[tl];omega),gI (by omega),gI (by rw[zZ];omega),gI (by rw[zU,tl,dl];simp;omega)];refine hrc _ ⟨?_,fun v hv=>?_,?_⟩;have hp:((l.take z++[c7.mk s (bt w)])++l.drop z).Perm (l++[c7.mk s (bt w)]):=by rw[zT];refine(List.perm_append_comm_assoc _ _ _).trans ?_;rw[List.take_append_drop];exact List.perm_append_comm
  refine(hp.map c7.Code).trans ?_;rw[List.map_append,List.map_append];exact h.perm.append_right _;rcases yD.1 hv with hv |hv;obtain⟨x,hx,e1,e2⟩:=h.nam v hv;refine⟨x,?_,e1,e2⟩;rw[<-List.take_append_drop z l]at hx;rcases yD.1 hx with hx |hx;exact List.mem_append_left _ (List.mem_append_left _ hx);exact List.mem_append_right _ hx;simp at hv;subst hv;exact⟨⟨s,bt v⟩,by simp,rfl,hs⟩;have h1:=h.srt;rw[<-List.take_append_drop z l,List.pairwise_append]at h1;rw[List.pairwise_append,List.pairwise_append];refine⟨⟨h1.1,by simp,fun a ha b hb=>by simp at hb;subst hb;exact hhi a ha⟩,h1.2.1,fun a ha b hb=>?_⟩;rcases yD.1 ha with ha |ha;exact h1.2.2 a ha b hb;simp at ha;subst ha;exact hlo b hb
 intro m;induction m with
 |zero=>intro z hm;omega|succ m ih=>
  intro z hm hz hlo;unfold RY;by_cases h0:z=0;subst h0;simp only[zV,Int.lt_irrefl,yB,zD,aM,show((0:Int)>0)=False by simp];have:=fin 0 (by omega) hlo (by simp)
  rwa [zV]at this
  have e0:decide ((z:Int)>0)=true:=by simp;omega
  have e1:IntKind.i64.wrap ((z:Int)-1)=((z-1:Nat):Int):=IU (by omega) (by omega);obtain⟨y,hy,hym⟩:=fB (l:=l) (show z-1<l.length by omega);obtain⟨v,hv,ev⟩:=h.cod y hym;obtain⟨r,r1,r2,r3⟩:=A' (x:=⟨s,bt w⟩) (y:=y) rfl ev hw (hws v hv) hn;simp only[e0,zC,e1,cP,hy,aM,r1];cases r with
  |true=>
   simp only[zC];refine ih (z-1) (by omega) (by omega) fun x hx=>?_;rw[aR hy,show z-1+1=z by omega]at hx;rcases zI.1 hx with rfl |hx
   exact r2 rfl;exact hlo x hx
  |false=>
   simp only[zD];refine fin z hz hlo fun x hx=>?_;have h1:=h.srt;rw[<-List.take_append_drop (z-1) l,List.pairwise_append]at h1;have:l.take z=l.take (z-1)++[y]:=by rw[<-gQ hy,show z-1+1=z by omega]
   rw[this]at hx;rcases yD.1 hx with hx |hx;exact Nat.le_trans (r3 rfl) (h1.2.2 x hx y (by rw[aR hy];simp));simp at hx;subst hx;exact r3 rfl
theorem JS(h:pH d):∃s0,g9 d s0/\∀s,g9 d s->jB d s s0:=by
 obtain⟨l,hl,hlen⟩:=h.ord;have hall:∀s,g9 d s->s∈l:=fun s ⟨x,hx,e⟩=>by
  apply Classical.byContradiction;intro hn;have h3:=VT (a:=s::l) (b:=d.map aT.Name) (List.nodup_cons.2 ⟨hn,hl.nodup.1⟩) fun t ht=>by rcases zI.1 ht with rfl |ht;rw[<-e];exact List.mem_map_of_mem hx;obtain⟨y,hy,rfl⟩:=hl.nodup.2 t ht;exact List.mem_map_of_mem hy
  simp at h3;omega
 obtain⟨x0,pY⟩:∃x0,d.filter (fun x=>decide (x.Supers=[]))=[x0]:=List.length_eq_one_iff.1 h.one;have Z8:x0∈d:=(List.mem_filter.1 (show x0∈d.filter (fun x=>decide (x.Supers=[])) by rw[pY];simp)).1;refine⟨x0.Name,⟨x0,Z8,rfl⟩,fun s hs=>?_⟩;have key:∀{l:List Str},Ord d l->∀s∈l,jB d s x0.Name:=by
  intro l hl;induction hl with
  |nil=>intro s hs;cases hs| @snoc l x g1 g2 g3 g4 ih=>
   intro s hs;rcases yD.1 hs with hs |hs;exact ih s hs;simp at hs;subst hs;cases hsup:x.Supers with
   |nil=>have:x∈d.filter (fun x=>decide (x.Supers=[])):=List.mem_filter.2 ⟨g2,by simp[hsup]⟩;rw[pY]at this;simp at this;rw[this];exact .refl|cons u us=>
    have hu:u∈x.Supers:=by rw[hsup];simp
    exact jB.trans (.step .refl g2 rfl hu) (ih u (g4 u hu))
 exact key hl s (hall s hs)
structure vL(d:List aT)(l:List c7):Prop where
 ws:∃(nm:Nat->Option Str)(c0 ws:List Nat),FI c0 ws/\EO ws/\CI nm ws l/\ws.length<=256/\0<ws.length
 dcl:∀s,g9 d s->∃x∈l,x.Name=s
 top:∃w0,(∃x∈l,x.Code=bt w0)/\∀x∈l,w0&&&cw x.Code=cw x.Code
theorem vL.len{d:List aT}{l:List c7}(h:vL d l):l.length<=256/\0<l.length:=by
 obtain⟨nm,c0,ws,h1,h2,h3,h4,h5⟩:=h.ws;have:=h3.len;omega
theorem vL.cod{d:List aT}{l:List c7}(h:vL d l):∀x∈l,∃w,x.Code=bt w/\w<4096/\w≠0:=fun x hx=>by
 obtain⟨nm,c0,ws,h1,h2,h3,h4,h5⟩:=h.ws;obtain⟨w,hw,e⟩:=h3.cod x hx;exact⟨w,e,(h1.ok w hw).1,(h1.ok w hw).2.1⟩
theorem gm(hd:d.length<=12)(hn:5000<=n):∃l e,DD n d=some (l,e)/\(e=0->pH d/\vL d l):=by
 obtain⟨e,c1,c2⟩:=tr hd hn;simp only[DD,c1,aM];by_cases he:e=0;subst he;have h:=c2 rfl;obtain⟨all,n1,n2⟩:=names_ok (d:=d) (by omega) hn;have hal:all.length<=12:=by have:=n2.len;simp at this;omega
 have hall:∀s,s∈all↔g9 d s:=fun s=>by rw[n2.mem];simp[g9,List.mem_map]
 simp only[bne_self_eq_false,zD,n1,aM];have:=eP (l:=all) (by omega) (F:=fun m z (s:List Nat)=>LD d n all m z (s.map bt)) (fun i s=>s.length=i/\(∀w∈s,w<4096)/\∀(j w:Nat)(t:Str),s[j]? = some w->all[j]? = some t->∀i:Nat,w.testBit i=true↔∃u,all[i]? = some u/\jB d u t) (Q:=fun r=>r.2=0->pH d/\vL d r.1)
  (fun m i x s hx hlt hd' hw hI ih=>by
   obtain⟨i1,i2,i3⟩:=hI;obtain⟨w,w1,w2,w3⟩:=mq h hal ((hall x).1 (zX hx)) (fun y hy=>(hall y).1 hy) hn;simp only[LD,hd',zC,cP,hx,aM,w1,hw,yA];rw[gI (by omega)];have:=ih (s++[w]) ⟨by simp;omega,fun v hv=>by
    rcases yD.1 hv with hv |hv;exact i2 v hv;simp at hv;subst hv;exact w2,fun j v t hj ht=>by
    by_cases e:j<s.length;rw[List.getElem?_append_left e]at hj;exact i3 j v t hj ht;have:j=i:=by have:=(zG.1 hj).1;simp at this;omega
    subst this;rw[List.getElem?_append_right (by omega),i1,Nat.sub_self]at hj;simp at hj;subst hj;rw[hx]at ht;cases ht;exact w3⟩
   rw[List.map_append]at this;exact this)
  (fun m c0 hd' hI=>by
   obtain⟨i1,i2,i3⟩:=hI;have hself:∀(j w:Nat),c0[j]? = some w->w.testBit j=true:=fun j w hj=>by obtain⟨t,ht,_⟩:=fB (l:=all) (show j<all.length by have:=(zG.1 hj).1;omega);exact(i3 j w t hj ht j).2 ⟨t,ht,.refl⟩
   have hdis:c0.Nodup:=by rw[List.Nodup,List.pairwise_iff_getElem];intro a b ha hb hab e;obtain⟨s,hs,hsm⟩:=fB (l:=all) (show a<all.length by omega);obtain⟨t,ht,htm⟩:=fB (l:=all) (show b<all.length by omega);have ga:=List.getElem?_eq_getElem ha;have gb:=List.getElem?_eq_getElem hb;have h1:=hself a _ ga;have h2:=hself b _ gb;rw[e]at h1;rw[<-e]at h2;obtain⟨u,hu,oh⟩:=(i3 b _ t gb ht a).1 h1;obtain⟨v,hv,hv2⟩:=(i3 a _ s ga hs b).1 h2;rw[hs]at hu;cases hu;rw[ht]at hv;cases hv;have:=yh h ((hall s).1 hsm) ((hall t).1 htm) oh hv2;subst this;obtain⟨p1,p2⟩:=zG.1 hs;obtain⟨q1,q2⟩:=zG.1 ht;have:=(List.getElem_inj n2.asc.nodup).1 (p2.trans q2.symm);omega
   have Su:∀a∈c0,a<4096/\a≠0:=fun a ha=>⟨i2 a ha,fun e=>by obtain⟨j,hj,e2⟩:=List.mem_iff_getElem.1 ha;have:=hself j a (by rw[List.getElem?_eq_getElem hj,e2]);rw[e]at this;simp at this⟩;obtain⟨ws,f1,f2,f3⟩:=th (c0:=c0) (by omega) hdis Su hn;simp only[LD,hd',zD,Gx,f1,aM,yA];by_cases rE:(ws.length:Int)>256;simp only[rE,yC,zC];exact⟨_,rfl,fun h=>by cases h⟩;simp only[rE,yB,zD];have hlen:ws.length<=256:=by omega
   have:=eP (l:=ws) (by omega) (F:=fun m z (s:List c7)=>DM d n all (c0.map bt) (ws.map bt) m z s) (fun i s=>CI (fun w=>W3 n d all (c0.map bt) (bt w)) (ws.take i) s) (Q:=fun r=>r.2=0->pH d/\vL d r.1)
    (fun m' i w s hx hlt bX kT eV fZ=>by
     have hwm:=zX hx;have okw:=f2.ok w hwm;obtain⟨t,t1,t2⟩:=Zq h hal (c0:=c0) i1 i2 okw.1 hn;have oT:(ws.map bt)[i]? = some (bt w):=by rw[List.getElem?_map,hx];rfl
     have hsl:=eV.len;rw[List.length_take]at hsl;simp only[DM,yA,bX,zC,cP,oT,aM,t1];refine YF (w:=w) (s:=t) eV (by omega) (fun v hv=>(f2.ok v (List.mem_of_mem_take hv)).1) okw.1 t1 hn (fun l' hl'=>?_) n s.length (by omega) (by omega) (by simp);rw[kT];rw[<-gQ hx]at hl';exact fZ l' hl')
    (fun m' s bX eV=>by
     rw[zW (zF _)]at eV;simp only[DM,yA,bX,zD,Gw];have hpos:0<ws.length:=by
      have hone:0<d.length:=by have:=h.one;rcases d with _|⟨x,d⟩;simp at this;simp
      obtain⟨x,hx,hxm⟩:=fB (l:=d) hone;have:=(hall x.Name).2 ⟨x,hxm,rfl⟩;have:=List.length_pos_of_mem this;obtain⟨t,ht⟩:=f2.pre;rw[ht,zU];omega
     have htop:∃w0,(∃x∈s,x.Code=bt w0)/\∀x∈s,w0&&&cw x.Code=cw x.Code:=by
      obtain⟨s0,q1,q2⟩:=JS h;obtain⟨j,hj,e⟩:=List.mem_iff_getElem.1 ((hall s0).2 q1);have hj':j<c0.length:=by omega
      obtain⟨p,hp⟩:=f2.pre;have hwm:c0[j]∈ws:=by rw[hp];exact List.mem_append_left _ (List.getElem_mem hj')
      obtain⟨x,hx,hxc,_⟩:=eV.nam _ hwm;have full:∀i,i<all.length->(c0[j]).testBit i=true:=fun i hi=>by obtain⟨u,hu,hum⟩:=fB hi;exact(i3 j _ s0 (List.getElem?_eq_getElem hj') (by rw[List.getElem?_eq_getElem hj,e]) i).2 ⟨u,hu,q2 u ((hall u).1 hum)⟩
      refine⟨c0[j],⟨x,hx,hxc⟩,fun y hy=>?_⟩;obtain⟨w,hw,ew⟩:=eV.cod y hy;rw[ew,wL];obtain⟨_,_,b,hb,hab⟩:=f2.ok w hw;refine Nat.eq_of_testBit_eq fun i=>?_;rw[Nat.testBit_and];rcases hwi:w.testBit i with _|_
      simp;have hbi:b.testBit i=true:=by have:=congrArg (fun z=>z.testBit i) hab;simp only[Nat.testBit_and,hwi,Bool.true_and]at this;exact this
      obtain⟨k,hk,e2⟩:=List.mem_iff_getElem.1 hb;obtain⟨t,ht,_⟩:=fB (l:=all) (show k<all.length by omega);obtain⟨u,hu,_⟩:=(i3 k b t (by rw[List.getElem?_eq_getElem hk,e2]) ht i).1 hbi;rw[full i (zG.1 hu).1];rfl
     refine⟨_,rfl,fun _=>⟨h,⟨_,c0,ws,f2,f3 hlen,eV,hlen,hpos⟩,fun t ht=>?_,htop⟩⟩;obtain⟨j,hj,e⟩:=List.mem_iff_getElem.1 ((hall t).2 ht);have hj':j<c0.length:=by omega
     obtain⟨p,hp⟩:=f2.pre;have hwm:c0[j]∈ws:=by rw[hp];exact List.mem_append_left _ (List.getElem_mem hj')
     obtain⟨x,hx,_,e2⟩:=eV.nam _ hwm;refine⟨x,hx,?_⟩;obtain⟨s2,t1,t2⟩:=Zq h hal (c0:=c0) i1 i2 (f2.ok _ hwm).1 hn;rw[t1]at e2;rw[<-Option.some.inj e2];exact t2 j t hdis (List.getElem?_eq_getElem hj') (by rw[List.getElem?_eq_getElem hj,e])) n 0 [] (by omega) (by omega) ⟨by simp,by simp,List.Pairwise.nil⟩
   rw[zV]at this;exact this) n 0 [] (by omega) (by omega) ⟨rfl,by simp,fun j w t hj=>by simp at hj⟩
 rw[zV]at this;obtain⟨r,h1,h2⟩:=this;exact⟨r.1,r.2,h1,h2⟩;have:(e != 0)=true:=by simpa using he
 simp only[this,zC];exact⟨[],e,rfl,fun h=>absurd h he⟩
variable{n:Nat}
theorem Yo{x:aT}(hx:x.Feats.length<=256)(s:Str)(hn:5000<=n):∃r,WB n x s=some r/\(r.2=true->∃f∈x.Feats,f.Feat=s/\f.Value=r.1):=by
 have:=eP (l:=x.Feats) (by omega) (F:=fun m z (_:Unit)=>L9 x s m z) (fun _ _=>True) (Q:=fun r=>r.2=true->∃f∈x.Feats,f.Feat=s/\f.Value=r.1)
  (fun m i f _ hf hlt hd' hw _ ih=>by simp only[L9,hd',zC,cP,hf,aM,A5,hw];by_cases e:f.Feat=s;simp only[e,yC,zC];exact⟨_,rfl,fun _=>⟨f,zX hf,e,rfl⟩⟩;simp only[e,yB,zD];exact ih () trivial)
  (fun m _ hd' _=>by simp only[L9,hd',zD,Gp];exact⟨_,rfl,fun h=>by cases h⟩) n 0 () (by omega) (by omega) trivial
 rw[zV]at this;exact this
variable{l:List c7}
theorem Pn(hl:l.length<=256)(s:Str)(hn:5000<=n):∃r,RC n l s=some r/\((∃x∈l,x.Name=s)->∃j:Nat,r=(j:Int)/\j<l.length):=by
 have:=eP (l:=l) (by omega) (F:=fun m z (_:Unit)=>LK l s m z) (fun i _=>∀x∈l.take i,x.Name≠s) (Q:=fun r=>(∃x∈l,x.Name=s)->∃j:Nat,r=(j:Int)/\j<l.length)
  (fun m i x _ hx hlt hd' hw hI ih=>by
   simp only[LK,hd',zC,cP,hx,aM,A5,hw];by_cases e:x.Name=s;simp only[e,yC,zC];exact⟨_,rfl,fun _=>⟨i,rfl,hlt⟩⟩;simp only[e,yB,zD];refine ih () fun y hy=>?_;rw[gQ hx]at hy;rcases yD.1 hy with hy |hy
   exact hI y hy;simp at hy;subst hy;exact e)
  (fun m _ hd' hI=>by rw[zW (zF _)]at hI;simp only[LK,hd',zD,Hs];exact⟨_,rfl,fun⟨x,hx,e⟩=>absurd e (hI x hx)⟩) n 0 () (by omega) (by omega) (by simp)
 rw[zV]at this;exact this
variable{d:List aT}
theorem gf(hd:d.length<=12)(hf:∀x∈d,x.Feats.length<=256)(hn:5000<=n):∃f,L0 n d=some f/\dA f/\f.length<=3072/\∀s∈f,∃x∈d,∃y∈x.Feats,y.Feat=s:=by
 have:=eP (l:=d) (by omega) (F:=fun m z s=>BR d n m s z) (fun i s=>dA s/\s.length<=256*i/\∀t∈s,∃x∈d,∃y∈x.Feats,y.Feat=t) (Q:=fun f=>dA f/\f.length<=3072/\∀s∈f,∃x∈d,∃y∈x.Feats,y.Feat=s)
  (fun m i x s hx hlt hd' hw hI ih=>by
   obtain⟨i1,i2,i3⟩:=hI;have hxm:=zX hx;have hxf:=hf x hxm;simp only[BR,hd',zC];have:=eP (l:=x.Feats) (by omega) (F:=fun m' z s'=>LA d n i (BR d n m) m' s' z) (fun k s'=>dA s'/\s'.length<=s.length+k/\∀t∈s',∃x∈d,∃y∈x.Feats,y.Feat=t) (Q:=fun f=>dA f/\f.length<=3072/\∀s∈f,∃x∈d,∃y∈x.Feats,y.Feat=s)
    (fun m' k y s' hy lO bX kT eV fZ=>by obtain⟨j1,j2,j3⟩:=eV;obtain⟨o,h1,h2,h3,h4⟩:=QC (l:=s') (by omega) j1 y.Feat (show s'.length<n by omega);simp only[LA,cP,hx,aM,bX,zC,hy,h1,kT];refine fZ o ⟨h4,by omega,fun t ht=>?_⟩;rcases(h2 t).1 ht with rfl |ht;exact⟨x,hxm,y,zX hy,rfl⟩;exact j3 t ht)
    (fun m' s' bX eV=>by obtain⟨j1,j2,j3⟩:=eV;simp only[LA,cP,hx,aM,bX,zD,Gr,hw];exact ih s' ⟨j1,by omega,j3⟩) n 0 s (by omega) (by omega) ⟨i1,by omega,i3⟩
   rw[zV]at this;exact this)
  (fun m s hd' hI=>by simp only[BR,hd',zD,Gs];exact⟨s,rfl,hI.1,by have:=hI.2.1;omega,hI.2.2⟩) n 0 [] (by omega) (by omega) ⟨List.Pairwise.nil,by simp,by simp⟩
 rw[zV]at this;exact this
theorem ab(s:Str)(hn:40<=n):∃r,L8 n s=some r:=by
 obtain⟨r,h1,_⟩:=Zp s true hn;exact⟨r,by simp[L8,h1,aM]⟩
def uK(d:List aT)(n:Nat)(x:aT):Prop:=∀f∈x.Feats,L8 n f.Feat=some true/\g9 d f.Value
theorem na(h:pH d)(hn:5000<=n):∃e,XN n d=some e/\(e=0->∀x∈d,uK d n x):=by
 have hd:=h.len;obtain⟨all,n1,n2⟩:=names_ok (d:=d) (by omega) hn;have hal:all.length<=12:=by have:=n2.len;simp at this;omega
 have hall:∀s,s∈all↔g9 d s:=fun s=>by rw[n2.mem];simp[g9,List.mem_map]
 have:=eP (l:=d) (by omega) (F:=fun m z (_:Unit)=>tS d n all m z) (fun i _=>∀x∈d.take i,uK d n x) (Q:=fun e=>e=0->∀x∈d,uK d n x)
  (fun m i x _ hx hlt hd' hw hI ih=>by
   have hxf:=(h.siz x (zX hx)).2;simp only[tS,hd',zC,cP,hx,aM];have:=eP (l:=x.Feats) (by omega) (F:=fun m' z (_:Unit)=>C0 n all i (tS d n all m) x m' z) (fun k _=>∀f∈x.Feats.take k,L8 n f.Feat=some true/\g9 d f.Value) (Q:=fun e=>e=0->∀x∈d,uK d n x)
    (fun m' k f _ hf lO bX kT eV fZ=>by
     obtain⟨r,r1⟩:=ab f.Feat (n:=n) (by omega);simp only[C0,bX,zC,cP,hf,aM,r1];rcases r with _|_;exact⟨1,rfl,fun h=>by cases h⟩;simp only[Bool.not_true,zD];have hk:((k:Int)<=(x.Feats.length:Int)):=by omega
     have key:∀(m3 j:Nat),k-j<m3->j<=k->∃e,S8 n all x k (C0 n all i (tS d n all m) x m') m3 j=some e/\(e=0->∀x∈d,uK d n x):=by
      intro m3;induction m3 with
      |zero=>intro j hm;omega|succ m3 Iy=>
       intro j hm hj;unfold S8;by_cases hjk:j<k;obtain⟨g,hg,_⟩:=fB (l:=x.Feats) (show j<x.Feats.length by omega);have e0:decide ((j:Int)<(k:Int))=true:=by simp;omega
       have e1:IntKind.i64.wrap ((j:Int)+1)=((j+1:Nat):Int):=IU (by omega) (by omega);simp only[e0,zC,cP,hg,hf,aM,e1];rcases gE g.Feat f.Feat with _|_;exact Iy (j+1) (by omega) (by omega);exact⟨4,rfl,fun h=>by cases h⟩;have e0:decide ((j:Int)<(k:Int))=false:=by simp;omega
       simp only[e0,zD,In,cP,hf,aM,D7 (l:=all) (by omega) f.Value (n:=n) (by omega),kT];by_cases nM:f.Value∈all;simp only[nM,yC,Bool.not_true,zD];refine fZ () fun y hy=>?_;rw[gQ hf]at hy;rcases yD.1 hy with hy |hy
       exact eV y hy;simp at hy;subst hy;exact⟨r1,(hall _).1 nM⟩;simp only[nM,yB,Bool.not_false,zC];exact⟨5,rfl,fun h=>by cases h⟩
     have:=key n 0 (by omega) (by omega);rw[zV]at this;exact this)
    (fun m' _ bX eV=>by
     rw[zW (zF _)]at eV;simp only[C0,bX,zD,Io,hw];refine ih () fun y hy=>?_;rw[gQ hx]at hy;rcases yD.1 hy with hy |hy
     exact hI y hy;simp at hy;subst hy;exact eV) n 0 () (by omega) (by omega) (by simp)
   rw[zV]at this;exact this)
  (fun m _ hd' hI=>by rw[zW (zF _)]at hI;simp only[tS,hd',zD,Ip];exact⟨0,rfl,fun _=>hI⟩) n 0 () (by omega) (by omega) (by simp)
 rw[zV]at this;simp only[XN,n1,aM];exact this
theorem Zy(h:pH d)(s:Str)(hn:5000<=n):∃r,WC n d s=some r:=by
 have hd:=h.len;have:=eP (l:=d) (by omega) (F:=fun m z t=>DL d s n m t z) (fun i t=>dA t/\t.length<=i) (Q:=fun _=>True)
  (fun m i x t hx hlt hd' hw hI ih=>by
   obtain⟨i1,i2⟩:=hI;obtain⟨r,r1,_⟩:=Yo (h.siz x (zX hx)).2 s hn;simp only[DL,hd',zC,cP,hx,aM,r1,X5,hw];cases r.2 with
   |true=>obtain⟨o,h1,h2,h3,h4⟩:=QC (l:=t) (by omega) i1 x.Name (show t.length<n by omega);simp only[zC,h1,aM];exact ih o ⟨h4,by omega⟩
   |false=>exact ih t ⟨i1,by omega⟩)
  (fun m t hd' hI=>by
   obtain⟨out,m1,m2,m3⟩:=wx h (l:=t) (by have:=hI.2;omega) hn;simp only[DL,hd',zD,Gq,m1,aM];by_cases e:(out.length:Int)=1;obtain⟨x,hx,_⟩:=fB (l:=out) (show 0<out.length by omega);have h0:aC out 0=some x:=by rw[<-hx];exact cP 0
   simp only[e,bne_self_eq_false,zD,h0,aM];exact⟨_,rfl,trivial⟩;have:((out.length:Int) != 1)=true:=by simpa using e
   simp only[this,zC];exact⟨_,rfl,trivial⟩) n 0 [] (by omega) (by omega) ⟨List.Pairwise.nil,by simp⟩
 rw[zV]at this;obtain⟨r,h1,_⟩:=this;exact⟨r,h1⟩
theorem Fb(h:vL d l){i j:Nat}(hi:i<l.length)(hj:j<l.length)(hn:5000<=n):∃b,G6 n l i j=some b:=by
 obtain⟨x,hx,hxm⟩:=fB hi;obtain⟨y,hy,hym⟩:=fB hj;obtain⟨a,a1,a2,_⟩:=h.cod x hxm;obtain⟨b,b1,b2,_⟩:=h.cod y hym;simp only[G6,cP,hx,hy,aM,a1,b1,Ph b2 a2 (show 5<=n by omega)];exact⟨_,rfl⟩
theorem jc(h:pH d)(hl:vL d l)(hv:∀x∈d,∀f∈x.Feats,g9 d f.Value){t:Nat}(ht:t<l.length)(s:Str)(hn:5000<=n):∃w b,S4 n d l t s=some (bt w,b)/\w<4096:=by
 have hd:=h.len;have hll:=hl.len;obtain⟨x0,pY,Sf⟩:=fB (l:=l) hll.2;obtain⟨w0,a1,a2,_⟩:=hl.cod x0 Sf;have:=eP (l:=d) (by omega) (F:=fun m z (s':Bool×Nat)=>GC d l t s n m s'.1 (bt s'.2) z) (fun _ s'=>s'.2<4096) (Q:=fun r=>∃w b,r=(bt w,b)/\w<4096)
  (fun m i x s' hx hlt hd' hw hI ih=>by have hxm:=zX hx;obtain⟨r,r1,r2⟩:=Yo (h.siz x hxm).2 s hn;simp only[GC,hd',zC,cP,hx,aM,r1,hw];rcases hr:r.2 with _|_;simp only[Bool.not_false,zC,aM];exact ih s' hI;obtain⟨p,p1,p2⟩:=Pn (l:=l) (by omega) x.Name hn;obtain⟨j,rfl,hj⟩:=p2 (hl.dcl _ ⟨x,hxm,rfl⟩);obtain⟨b,b1⟩:=Fb hl hj ht hn;simp only[Bool.not_true,zD,p1,aM,b1];rcases b with _|_;simp only[Bool.not_false,zC];exact ih s' hI;obtain⟨f,hf,_,e2⟩:=r2 hr;obtain⟨q,q1,q2⟩:=Pn (l:=l) (by omega) r.1 hn;obtain⟨k,rfl,hk⟩:=q2 (hl.dcl _ (e2 ▸ hv x hxm f hf));obtain⟨y,hy,hym⟩:=fB hk;obtain⟨v,v1,v2,_⟩:=hl.cod y hym;simp only[Bool.not_true,zD,q1,aM,cP,hy,v1,Wj hI v2 (show 5<=n by omega)];exact ih (true,s'.2&&&v) (Nat.lt_of_le_of_lt Nat.and_le_left hI))
  (fun m s' hd' hI=>by simp only[GC,hd',zD,Il];exact⟨_,rfl,s'.2,s'.1,rfl,hI⟩) n 0 (false,w0) (by omega) (by omega) a2
 rw[zV]at this;obtain⟨r,h1,w,b,rfl,h2⟩:=this;have h0:aC l 0=some x0:=by rw[<-pY];exact cP 0
 exact⟨w,b,by simp only[S4,h0,aM,a1];exact h1,h2⟩
structure B0(d:List aT)(n:Nat)(l:List c7)(f:List Str):Prop where
 dok:pH d
 cod:DD n d=some (l,0)
 cok:vL d l
 fea:L0 n d=some f
 asc:dA f
 len:f.length<=64
 val:∀x∈d,uK d n x
 mem:∀s∈f,∃x∈d,∃y∈x.Feats,y.Feat=s
theorem wg(hd:d.length<=12)(hn:5000<=n):∃e,G2 n d=some e/\(e=0->∃l f,B0 d n l f):=by
 obtain⟨l,e,c1,c2⟩:=gm hd hn;simp only[G2,c1,aM];by_cases he:e=0;subst he;obtain⟨h,hl⟩:=c2 rfl;have hll:=hl.len;obtain⟨f,f1,f2,f3,f4⟩:=gf hd (fun x hx=>(h.siz x hx).2) hn;simp only[bne_self_eq_false,zD,f1,aM];by_cases pZ:(f.length:Int)>64;simp only[pZ,yC,zC];exact⟨7,rfl,fun h=>by cases h⟩;obtain⟨e2,d1,d2⟩:=na h hn;simp only[pZ,yB,zD,d1,aM];by_cases Td:e2=0;subst Td;have hv:=d2 rfl;have hok:B0 d n l f:=⟨h,c1,hl,f1,f2,by omega,hv,f4⟩;simp only[bne_self_eq_false,zD];have:=eP (l:=f) (by omega) (F:=fun m z (_:Unit)=>LC d n (l,0) f m z) (fun _ _=>True) (Q:=fun e=>e=0->∃l f,B0 d n l f)
  (fun m i s _ hs hlt hd' hw _ ih=>by obtain⟨r,r1⟩:=Zy h s hn;simp only[LC,hd',zC,cP,hs,aM,r1,hw];rcases r.2 with _|_;exact⟨10,rfl,fun h=>by cases h⟩;exact ih () trivial)
  (fun m _ hd' _=>by
   simp only[LC,hd',zD,Gv];have:=eP (l:=l) (by omega) (F:=fun m z (_:Unit)=>BT d n (l,0) f m z) (fun _ _=>True) (Q:=fun e=>e=0->∃l f,B0 d n l f)
    (fun m t _ _ _ lO bX kT _ fZ=>by
     simp only[BT,bX,zC];have:=eP (l:=f) (by omega) (F:=fun m' z (_:Unit)=>LB d n (l,0) f t (BT d n (l,0) f m) m' z) (fun _ _=>True) (Q:=fun e=>e=0->∃l f,B0 d n l f)
      (fun m' i s _ hs om SH SG _ Iy=>by
       obtain⟨w,b,i1,_⟩:=jc h hl (fun x hx y hy=>(hv x hx y hy).2) lO s hn;simp only[LB,SH,zC,cP,hs,aM,i1,SG];rcases b with _|_;exact Iy () trivial;simp only[zC,aM];cases (((bt w).length:Int)==0)with
       |true=>exact⟨11,rfl,fun h=>by cases h⟩|false=>exact Iy () trivial)
      (fun m' _ SH _=>by simp only[LB,SH,zD,Gt,kT];exact fZ () trivial) n 0 () (by omega) (by omega) trivial
     rw[zV]at this;exact this)
    (fun m _ bX _=>by simp only[BT,bX,zD,Gu];exact⟨0,rfl,fun _=>⟨l,f,hok⟩⟩) n 0 () (by omega) (by omega) trivial
   rw[zV]at this;exact this) n 0 () (by omega) (by omega) trivial
 rw[zV]at this;exact this;have:(e2 != 0)=true:=by simpa using Td
 simp only[this,zC];exact⟨e2,rfl,fun h=>absurd h Td⟩;have:(e != 0)=true:=by simpa using he
 simp only[this,zC];exact⟨e,rfl,fun h=>absurd h he⟩
theorem pz(hl:vL d l){w:Nat}(hn:5000<=n):∃r,W5 n l (bt w)=some r:=by
 have hll:=hl.len;have:=eP (l:=l) (by omega) (F:=fun m z (_:Unit)=>L6 l n (bt w) m z) (fun _ _=>True) (Q:=fun _=>True)
  (fun m i x _ hx hlt hd' hw _ ih=>by
   obtain⟨a,a1,_⟩:=hl.cod x (zX hx);simp only[L6,hd',zC,cP,hx,aM,a1,Yv (a:=a) (b:=w) (n:=n) (by omega),hw];cases decide (a=w)with
   |true=>exact⟨_,rfl,trivial⟩|false=>exact ih () trivial)
  (fun m _ hd' _=>by simp only[L6,hd',zD,Gd];exact⟨_,rfl,trivial⟩) n 0 () (by omega) (by omega) trivial
 rw[zV]at this;obtain⟨r,h1,_⟩:=this;exact⟨r,by simp only[W5,li (w:=w) (n:=n) (by omega),aM];exact h1⟩
theorem bw(hd:d.length<=12)(hn:5000<=n):∃v e,RE n d=some (v,e)/\(e=0->∃l f,B0 d n l f/\v.length=l.length):=by
 obtain⟨e,c1,c2⟩:=wg hd hn;simp only[RE,c1,aM];by_cases he:e=0;subst he;obtain⟨l,f,h⟩:=c2 rfl;have hll:=h.cok.len;have hfl:=h.len;simp only[bne_self_eq_false,zD,h.cod,h.fea,aM];have:=eP (l:=l) (by omega) (F:=fun m z s=>wZ d n (l,0) f m z s) (fun i s=>s.length=i) (Q:=fun r=>r.2=0->∃l f,B0 d n l f/\r.1.length=l.length)
  (fun m t _ s _ hlt hd' hw hI ih=>by
   simp only[wZ,hd',zC];have:=eP (l:=f) (by omega) (F:=fun m' z s'=>DS d n (l,0) f t s (wZ d n (l,0) f m) m' z s') (fun i s'=>s'.length<=i) (Q:=fun r=>r.2=0->∃l f,B0 d n l f/\r.1.length=l.length)
    (fun m' i x s' hx lO bX kT eV fZ=>by
     obtain⟨w,b,i1,_⟩:=jc h.dok h.cok (fun x hx y hy=>(h.val x hx y hy).2) hlt x hn;simp only[DS,bX,zC,cP,hx,aM,i1,XC,kT];cases b with
     |true=>obtain⟨r,r1⟩:=pz h.cok (w:=w) hn;simp only[zC,r1,aM];rw[gI (by omega)];exact fZ _ (by simp;omega)
     |false=>exact fZ s' (by omega))
    (fun m' s' bX eV=>by simp only[DS,bX,zD,Ht,hw];rw[gI (by omega)];exact ih _ (by simp;omega)) n 0 [] (by omega) (by omega) (by simp)
   rw[zV]at this;exact this)
  (fun m s hd' hI=>by simp only[wZ,hd',zD,Hu];exact⟨_,rfl,fun _=>⟨l,f,h,hI⟩⟩) n 0 [] (by omega) (by omega) (by simp)
 rw[zV]at this;obtain⟨r,h1,h2⟩:=this;exact⟨r.1,r.2,h1,h2⟩;have:(e != 0)=true:=by simpa using he
 simp only[this,zC];exact⟨[],e,rfl,fun h=>absurd h he⟩
theorem E'(h:vL d l){t:Nat}(ht:t<l.length)(hn:5000<=n):∃r,Fp n l t=some r:=by
 have hll:=h.len;have:=eP (l:=l) (by omega) (F:=fun m z s=>tR l t n m z s) (fun i s=>s.length<=i) (Q:=fun _=>True)
  (fun m k _ s _ hlt hd' hw hI ih=>by
   obtain⟨b,b1⟩:=Fb h hlt ht hn;simp only[tR,hd',zC,b1,aM,hw];have go:∃r,GA l t n k s (tR l t n m) n true 0=some r/\True:=by
    have:=eP (l:=l) (by omega) (F:=fun m' z b=>GA l t n k s (tR l t n m) m' b z) (fun _ _=>True) (Q:=fun _=>True)
     (fun m' i _ b _ lO bX kT _ fZ=>by
      obtain⟨b1,g1⟩:=Fb h hlt lO hn;obtain⟨b2,g2⟩:=Fb h lO ht hn;simp only[GA,bX,zC,kT,g1,g2,aM];rcases b with _|_;exact fZ false trivial;cases ((i:Int)==(t:Int))with
      |true=>exact fZ true trivial|false=>cases ((i:Int)==(k:Int))with|true=>exact fZ true trivial|false=>rcases b1 with _|_;exact fZ true trivial;exact fZ _ trivial)
     (fun m' b bX _=>by
      simp only[GA,bX,zD,Hv,XG,hw];cases b with
      |true=>simp only[zC];rw[gI (by omega)];exact ih _ (by simp;omega)|false=>exact ih s (by omega)) n 0 true (by omega) (by omega) trivial
    rw[zV]at this;exact this
   cases ((k:Int)==(t:Int))with|true=>simp only[zC,aM];exact ih s (by omega)|false=>simp only[zD,aM];rcases b with _|_;simp only[Bool.not_false,zC];exact ih s (by omega);simp only[Bool.not_true,zD];exact go)
  (fun m s hd' hI=>by simp only[tR,hd',zD,Hw];exact⟨_,rfl,trivial⟩) n 0 [] (by omega) (by omega) (by simp)
 rw[zV]at this;obtain⟨r,h1,_⟩:=this;exact⟨r,h1⟩
theorem dg(hn:5000<=n){f:List Str}(h:B0 d n l f)(hc:G2 n d=some 0):∃r,X6 n d=some (r,0)/\r.map nK.Name=f:=by
 have hll:=h.cok.len;have hfl:=h.len;have:=eP (l:=f) (by omega) (F:=fun m z s=>LO d n (l,0) f m z s) (fun i s=>s.map nK.Name=f.take i) (Q:=fun r=>r.2=0/\r.1.map nK.Name=f)
  (fun m i x s hx hlt hd' hw hI ih=>by
   obtain⟨r,r1⟩:=Zy h.dok x hn;obtain⟨q,q1,_⟩:=Pn (l:=l) (by omega) r.1 hn;have hsl:s.length=i:=by have:=congrArg List.length hI;simp at this;omega
   simp only[LO,hd',zC,cP,hx,aM,r1,q1,hw];rw[gI (by omega)];exact ih _ (by rw[List.map_append,hI,gQ hx];rfl))
  (fun m s hd' hI=>by rw[zW (zF _)]at hI;simp only[LO,hd',zD,Ij];exact⟨_,rfl,rfl,hI⟩) n 0 [] (by omega) (by omega) (by simp)
 rw[zV]at this;obtain⟨r,h1,h2,h3⟩:=this;refine⟨r.1,?_,h3⟩;simp only[X6,hc,aM,bne_self_eq_false,zD,h.cod,h.fea,h1];rw[<-h2]
structure Js(d:List aT)(n:Nat)(h:dY):Prop where
 ex:∃l f,B0 d n l f/\h.Types.map jH.Code=l.map c7.Code/\h.Feats.map nK.Name=f
theorem af(hd:d.length<=12)(hn:5000<=n):∃h e,DG n d=some (h,e)/\(e=0->Js d n h)/\(e≠0->h=⟨[],[]⟩):=by
 obtain⟨v,e,v1,v2⟩:=bw hd hn;simp only[DG,v1,aM];by_cases he:e=0;subst he;obtain⟨l,f,h,hv⟩:=v2 rfl;have hll:=h.cok.len;have hc:G2 n d=some 0:=by
  obtain⟨e,c1,c2⟩:=wg hd hn;by_cases h0:e=0;rw[c1,h0];have:(e != 0)=true:=by simpa using h0
  simp only[RE,c1,aM,this,zC,zA,zB]at v1;exact absurd v1.2 h0
 obtain⟨fs,g1,g2⟩:=dg hn h hc;simp only[bne_self_eq_false,zD,h.cod,aM];have:=eP (l:=l) (by omega) (F:=fun m z s=>LM d n (v,0) (l,0) m z s) (fun i s=>s.map jH.Code=(l.take i).map c7.Code) (Q:=fun r=>r.2=0/\Js d n r.1)
  (fun m i x s hx hlt hd' hw hI ih=>by
   obtain⟨r,r1⟩:=E' h.cok hlt hn;obtain⟨y,hy,_⟩:=fB (l:=v) (show i<v.length by omega);have hsl:s.length=i:=by have:=congrArg List.length hI;simp at this;omega
   simp only[LM,hd',zC,cP,hx,hy,aM,r1,hw];rw[gI (by omega)];exact ih _ (by rw[List.map_append,hI,gQ hx,List.map_append];rfl))
  (fun m s hd' hI=>by rw[zW (zF _)]at hI;simp only[LM,hd',zD,If,g1,aM];exact⟨_,rfl,rfl,⟨l,f,h,hI,g2⟩⟩) n 0 [] (by omega) (by omega) (by simp)
 rw[zV]at this;obtain⟨r,h1,h2,h3⟩:=this;exact⟨r.1,r.2,h1,fun _=>h3,fun h=>absurd h2 h⟩;have:(e != 0)=true:=by simpa using he
 simp only[this,zC];exact⟨_,e,rfl,fun h=>absurd h he,fun _=>rfl⟩
end Go.Proofs
namespace Go.Proofs
open Go Go.Rx Go.Vx
set_option maxRecDepth 10000
structure EM(h:dY)(ws:List Nat):Prop where
 cod:h.Types.map jH.Code=ws.map bt
 ok:∀w∈ws,w≠0/\w<4611686018427387904
 nod:ws.Nodup
 cls:EO ws
 len:ws.length<=1000
 pos:0<ws.length
 fl:h.Feats.length<=1000
 top:∀w∈ws,(ws[0]?).getD 0&&&w=w
structure uJ(h:dY)(f:GFS):Prop where
 sm:cA f 12
 ne:0<f.Nodes.length
 nok:∀x∈f.Nodes,(0<=x.Typex/\x.Typex<(h.Types.length:Int))/\OZ f.Nodes.length (h.Feats.length:Int) x.Arcs
 can:j6 f 0=f
 gok:qB f
theorem We{h:dY}{z:Int}{rc:Int->Option Int}{x:bS}{Q:Prop}(hx:x.Arcs.length<=12)(hr:∃r,rc (IntKind.i64.wrap (z+1))=some r/\(r=0->Q)):∀(m k:Nat),x.Arcs.length-k<m->k<=x.Arcs.length->∃r,RW h z rc x m (k:Int)=some r/\(r=0->Q/\∀a∈x.Arcs.drop k,a.Feat<(h.Feats.length:Int))
 |0,k,hm,_=>by omega
 |m+1,k,hm,hk=>by unfold RW;by_cases hlt:k<x.Arcs.length;obtain⟨a,ha,_⟩:=fB hlt;simp only[kB hlt,zC,cP,ha,aM,mH hlt (show x.Arcs.length<=9223372036854775807 by omega)];by_cases hf:a.Feat>=(h.Feats.length:Int);simp only[hf,yC,zC];exact⟨_,rfl,fun q=>by cases q⟩;simp only[hf,yB,zD];obtain⟨r,r1,r2⟩:=We hx hr m (k+1) (by omega) (by omega);refine⟨r,r1,fun q=>⟨(r2 q).1,fun b hb=>?_⟩⟩;rw[aR ha]at hb;rcases zI.1 hb with rfl |hb;omega;exact(r2 q).2 b hb;simp only[kL hlt,zD,Gn,bP hlt];obtain⟨r,r1,r2⟩:=hr;exact⟨r,r1,fun q=>⟨r2 q,fun a ha=>by cases ha⟩⟩
theorem Wg{h:dY}{f:GFS}{n:Nat}{r3:GFS×Int}{Q:Prop}(hs:cA f 12)(hn:12<n)(hk:∃r,RX f n r3=some r/\(r=0->Q)):∀(m i:Nat),f.Nodes.length-i<m->i<=f.Nodes.length->∃r,G5 h f n r3 m (i:Int)=some r/\(r=0->Q/\∀x∈f.Nodes.drop i,x.Typex<(h.Types.length:Int)/\∀a∈x.Arcs,a.Feat<(h.Feats.length:Int))
 |0,i,hm,_=>by omega
 |m+1,i,hm,hi=>by have hnl:=hs.nodes;unfold G5;by_cases hlt:i<f.Nodes.length;obtain⟨x,hx,hxm⟩:=fB hlt;have hxl:=hs.arcs x hxm;simp only[kB hlt,zC,cP,hx,aM];by_cases ht:x.Typex>=(h.Types.length:Int);simp only[ht,yC,zC];exact⟨_,rfl,fun q=>by cases q⟩;simp only[ht,yB,zD];have ih:=Wg (h:=h) hs hn hk m (i+1) (by omega) (by omega);rw[<-mH hlt (show f.Nodes.length<=9223372036854775807 by omega)]at ih;obtain⟨r,r1,r2⟩:=We (h:=h) (z:=(i:Int)) (x:=x) hxl ih n 0 (by omega) (by omega);rw[zV]at r1;refine⟨r,r1,fun q=>?_⟩;obtain⟨⟨q1,q2⟩,q3⟩:=r2 q;refine⟨q1,fun y hy=>?_⟩;rw[aR hx]at hy;rcases zI.1 hy with rfl |hy;exact⟨by omega,by rw[List.drop_zero]at q3;exact q3⟩;exact q2 y hy;simp only[kL hlt,zD,bP hlt];obtain⟨r,r1,r2⟩:=hk;exact⟨r,r1,fun q=>⟨r2 q,fun a ha=>by cases ha⟩⟩
theorem OI{f:GFS}(hs:cA f 12)(h:dY){n:Nat}(hn:3000000<=n):∃r,R5 n h f=some r/\(r=0->uJ h f):=by
 have h2:=av hs (by omega) (n:=n) (show 2*12+4<=n by omega);by_cases e:wC f=0;rw[if_pos e]at h2;obtain⟨g1,g2,g3⟩:=zy.1 e;have hin:kY f 0:=⟨by omega,by omega⟩;have hsm:=hs.canon g3 (r:=0) hin
 have q2:=Yz (f:=f) (g:=⟨(j6 f 0).Nodes⟩) (n:=n) (hs.up (by omega)) (hsm.up (by omega)) hn;have hk:∃r,RX f n (j6 f 0,0)=some r/\(r=0->f=j6 f 0):=by simp only[RX,q2,aM];cases hb:(OL f ⟨(j6 f 0).Nodes⟩==0);exact⟨_,rfl,fun q=>by cases q⟩;exact⟨_,rfl,fun _=>qk.1 (by simpa using hb)⟩
 obtain⟨r,r1,r2⟩:=Wg (h:=h) hs (by omega) hk n 0 (by have:=hs.nodes;omega) (by omega);rw[zV]at r1;refine⟨r,by simp only[R5,h2,aM];exact r1,fun q=>?_⟩;obtain⟨q1,q3⟩:=r2 q;rw[List.drop_zero]at q3;have hc:=Yi g3 hin
 refine⟨hs,by omega,fun x hx=>⟨⟨(g3 x hx).ty,(q3 x hx).1⟩,?_,fun a ha=>?_⟩,q1.symm,g3⟩;exact hc.up x (q1 ▸ hx);have:=(g3 x hx).arc a ha;exact⟨this.1,(q3 x hx).2 a ha,this.2⟩;rw[if_neg e]at h2;have e':(wC f != 0)=true:=by simp[e]
 exact⟨wC f,by simp only[R5,h2,aM,e',zC],fun q=>absurd q e⟩
theorem Vz{h:dY}{l:List GFS}(hl:l.length<=1000000){n:Nat}(hn:3000000<=n):∀(m i:Nat),l.length-i<m->i<=l.length->∃b,RT h l n m (i:Int)=some b/\(b=true->∀f∈l.drop i,uJ h f)
 |0,i,hm,_=>by omega
 |m+1,i,hm,hi=>by
  unfold RT;by_cases hlt:i<l.length;obtain⟨f,hf,_⟩:=fB hlt;obtain⟨b,b1,b2⟩:=pe f (n:=n) (by omega);simp only[kB hlt,zC,cP,hf,aM,b1,mH hlt (show l.length<=9223372036854775807 by omega)];rcases b with _|_;simp only[Bool.not_false,zC,aM];exact⟨false,rfl,fun q=>by cases q⟩;obtain⟨r,r1,r2⟩:=OI (b2 rfl) h hn;simp only[Bool.not_true,zD,r1,aM];cases hr:(r != 0)with
  |true=>simp only[zC];exact⟨false,rfl,fun q=>by cases q⟩|false=>simp only[zD];obtain⟨b,g1,g2⟩:=Vz hl hn m (i+1) (by omega) (by omega);refine⟨b,g1,fun q g hg=>?_⟩;rw[aR hf]at hg;rcases zI.1 hg with rfl |hg;exact r2 (by simpa using hr);exact g2 q g hg
  simp only[kL hlt,zD,Gk,bP hlt];exact⟨true,rfl,fun _ f hf=>by cases hf⟩
theorem ma(h:dY){l:List GFS}(hl:l.length<=1000000){n:Nat}(hn:3000000<=n):∃b,Qf n h l=some b/\(b=true->∀f∈l,uJ h f):=by
 obtain⟨b,h1,h2⟩:=Vz (h:=h) hl hn n 0 (by omega) (by omega);rw[zV]at h1;exact⟨b,h1,h2⟩
def TU(k:Nat)(a:bE):bE:=⟨a.Feat,a.To+(k:Int)⟩
theorem OQ{a b:Nat}(hab:b&&&a=a)(ha:a<4096)(hb:b<4096)(hl:(bl b).length<=(bl a).length):a=b:=by
 have hs:∀i,a.testBit i=true->b.testBit i=true:=fun i h=>by have:=congrArg (fun z=>z.testBit i) hab;simp only[Nat.testBit_and,h,Bool.and_true]at this;exact this
 have e1:(List.range 64).filter (fun i=>a.testBit i)=((List.range 64).filter fun i=>b.testBit i).filter fun i=>a.testBit i:=by
  rw[List.filter_filter];refine List.filter_congr fun i _=>?_;rcases h:a.testBit i with _|_
  simp;simp[hs i h]
 simp only[bl,yA]at hl;rw[e1]at hl;have e2:((List.range 64).filter fun i=>b.testBit i).filter (fun i=>a.testBit i)=(List.range 64).filter fun i=>b.testBit i:=(List.filter_sublist).eq_of_length_le hl;refine Nat.eq_of_testBit_eq fun i=>?_;by_cases hi:i<64;cases hbi:b.testBit i with
 |false=>rcases hai:a.testBit i with _|_;rfl;rw[hs i hai]at hbi;cases hbi
 |true=>have:i∈(List.range 64).filter fun i=>b.testBit i:=List.mem_filter.2 ⟨List.mem_range.2 hi,hbi⟩;rw[<-e2]at this;exact(List.mem_filter.1 this).2
 rw[Nat.testBit_lt_two_pow (Nat.lt_of_lt_of_le ha (Nat.pow_le_pow_right (n:=2) (by omega) (show 12<=i by omega))),Nat.testBit_lt_two_pow (Nat.lt_of_lt_of_le hb (Nat.pow_le_pow_right (n:=2) (by omega) (show 12<=i by omega)))]
variable{n:Nat}
theorem Js.hr{d:List aT}{h:dY}(hh:Js d n h):∃ws,EM h ws:=by
 obtain⟨l,f,h1,h2,h3⟩:=hh.ex;obtain⟨nm,c0,ws,g1,g2,g3,g4,g5⟩:=h1.cok.ws;have hc:=h1.cok.cod;have e1:(l.map fun x=>cw x.Code).map bt=l.map c7.Code:=by rw[List.map_map];apply List.map_congr_left;intro x hx;obtain⟨w,hw,_⟩:=hc x hx;simp[hw,wL]
 have e2:(l.map fun x=>cw x.Code).Perm ws:=by
  have:=g3.perm.map cw;rw[List.map_map,List.map_map]at this;have e3:ws.map (cw ∘ bt)=ws:=by have:(cw ∘ bt)=id:=funext fun w=>wL w;rw[this,List.map_id]
  rw[e3]at this;exact this
 refine⟨l.map fun x=>cw x.Code,⟨by rw[h2,e1],fun w hw=>?_,e2.nodup_iff.2 g1.nod,fun a ha b hb hne=>?_,?_,?_,?_,?_⟩⟩;have:=g1.ok w (e2.mem_iff.1 hw);exact⟨this.2.1,by omega⟩;exact e2.mem_iff.2 (g2 a (e2.mem_iff.1 ha) b (e2.mem_iff.1 hb) hne);rw[e2.length_eq];omega;rw[e2.length_eq];omega;have:=congrArg List.length h3;rw[yA]at this;have:=h1.len;omega;intro w hw;obtain⟨y,hy,rfl⟩:=List.mem_map.1 hw;obtain⟨w0,⟨x0,pY,e0⟩,htop⟩:=h1.cok.top;have hsrt:=g3.srt;rcases hl:l with _|⟨z,l'⟩;rw[hl]at pY;cases pY;simp only[zQ,List.getElem?_cons_zero,Option.getD_some];have hzm:z∈l:=by rw[hl];simp
 obtain⟨wz,ez,lz,_⟩:=hc z hzm;obtain⟨Wo,O8,l0,_⟩:=hc x0 pY;have e_:w0=Wo:=by rw[<-wL w0,<-wL Wo,<-e0,<-O8]
 have hle:cnt x0<=cnt z:=by rw[hl]at pY hsrt;rcases zI.1 pY with rfl |h;exact zF _;exact(List.pairwise_cons.1 hsrt).1 x0 h
 have hz:=htop z hzm;rw[ez,wL]at hz;have:wz=w0:=OQ hz lz (by rw[e_];exact l0) (by
  have c1:cnt x0=(bl w0).length:=by rw[cnt,e0,wL]
  have c2:cnt z=(bl wz).length:=by rw[cnt,ez,wL]
  omega)
 rw[ez,wL,this];exact htop y (by rw[hl]at hy;rw[hl];exact hy)
def wd(t:jH):Nat:=cw t.Code
def Iw:List Nat->Bool
 |[]=>true|x::l=>!(l.any fun y=>Nat.beq x y)&&Iw l
def okB(h:dY):Bool :=
 (h.Types.all fun t=>match t.Code with |[z]=>decide (0<z)&&decide (z<4611686018427387904)|_=>false) &&
 Iw (h.Types.map wd)&&((h.Types.map wd).all fun a=>(h.Types.map wd).all fun b=>Nat.beq (a&&&b) 0||(h.Types.map wd).any fun c=>Nat.beq (a&&&b) c) &&
 Nat.ble h.Types.length 1000&&Nat.ble 1 h.Types.length&&Nat.ble h.Feats.length 1000&&((h.Types.map wd).all fun w=>Nat.beq ((((h.Types.map wd)[0]?).getD 0)&&&w) w)
theorem Vl:∀{l:List Nat},Iw l=true->l.Nodup
 |[],_=>List.nodup_nil|x::l,h=>by simp only[Iw,Bool.and_eq_true,Bool.not_eq_true',List.any_eq_false]at h;refine List.nodup_cons.2 ⟨fun hx=>?_,Vl h.2⟩;have:=h.1 x hx;simp at this
theorem M6{h:dY}(hb:okB h=true):∃ws,EM h ws:=by
 simp only[okB,Bool.and_eq_true,List.all_eq_true,Nat.ble_eq]at hb;obtain⟨⟨⟨⟨⟨⟨h1,h2⟩,h3⟩,h4⟩,h5⟩,h6⟩,h7⟩:=hb;have hcod:∀t∈h.Types,t.Code=bt (wd t)/\wd t≠0/\wd t<4611686018427387904:=fun t ht=>by
  have:=h1 t ht;unfold wd;rcases hc:t.Code with _|⟨z,l⟩;rw[hc]at this;simp at this;cases l with
  |cons y l=>rw[hc]at this;simp at this|nil=>rw[hc]at this;simp at this;have e:cw [z]=z.toNat:=rfl;rw[e];exact⟨by rw[pK (by omega)];congr 1;omega,by omega,by omega⟩
 refine⟨h.Types.map wd,⟨?_,fun w hw=>?_,Vl h2,fun a ha b hb hne=>?_,by rw[yA];exact h4,by rw[yA];exact h5,h6,fun w hw=>by have:=h7 w hw;rw[Nat.beq_eq]at this;exact this⟩⟩;rw[List.map_map];exact List.map_congr_left fun t ht=>(hcod t ht).1;obtain⟨t,ht,rfl⟩:=List.mem_map.1 hw;exact(hcod t ht).2;have:=h3 a ha b hb;rw[Bool.or_eq_true,Nat.beq_eq]at this;rcases this with h |h
 exact absurd h hne;obtain⟨c,hc,e⟩:=List.any_eq_true.1 h;rw[Nat.beq_eq]at e;rw[e];exact hc
theorem preB(m:Nat):a8 (WX (m+200)) (fun d=>a8 (DG (m+200) d) fun r=>some (okB r.1))=some true:=by kernel_rfl
theorem LU(h:200<=n):∃g ws,S7 n=some g/\EM g ws:=by
 have:=preB (n-200);rw[show n-200+200=n by omega]at this;rcases e1:WX n with _|d;rw[e1]at this;cases this;rw[e1,aM]at this;rcases e2:DG n d with _|r;rw[e2]at this;cases this;rw[e2,aM]at this;obtain⟨ws,hw⟩:=M6 (Option.some.inj this);exact⟨⟨r.1.Types,r.1.Feats⟩,ws,by simp only[S7,e1,e2,aM],hw⟩
theorem lw(d:List aT)(hn:5000<=n):∃g ws,Ib n d=some g/\EM g ws:=by
 obtain⟨g,ws,p1,p2⟩:=LU (n:=n) (by omega);unfold Ib;by_cases hd:(d.length:Int)<=12;obtain⟨h,e,c1,c2,c3⟩:=af (d:=d) (by omega) hn;simp only[hd,yC,zC,c1,aM];by_cases he:e=0;subst he;obtain⟨ws',hw⟩:=(c2 rfl).hr;exact⟨⟨h.Types,h.Feats⟩,ws',rfl,hw⟩;have:(e==0)=false:=by simpa using he
 simp only[this,zD];exact⟨g,ws,p1,p2⟩;simp only[hd,yB,zD];exact⟨g,ws,p1,p2⟩
theorem Cq{α:Type}{l:List α}{i:Nat}(h:i<l.length):∃x,l[i]? = some x:=⟨l[i],List.getElem?_eq_getElem h⟩
variable{N:List PN}
theorem ti{N':List PN}(c:CO N)(c':CO N')(e:Ex N.length N N'){r:Nat}(hr:r<N.length):j6 (core N') (r:Int)=j6 (core N) (r:Int):=by
 have hl:=e.len;have at_:∀v,kY (core N) v->∃(i:Nat)(x x':PN),v=(i:Int)/\N[i]? = some x/\N'[i]? = some x'/\x'.kind=x.kind/\x'.arcs=x.arcs:=fun v hv=>by have:=hv.2;rw[pT]at this;obtain⟨x,hx⟩:=Cq (l:=N) (i:=v.toNat) (by have:=hv.1;omega);obtain⟨x',h1,h2,h3⟩:=e.st v.toNat x (by have:=hv.1;omega) hx;exact⟨v.toNat,x,x',by have:=hv.1;omega,hx,h1,h2,h3⟩
 have S:kH (core N) (core N') id (kY (core N)):=by refine⟨fun v hv a ha=>?_,fun _ _ _ _ h=>h,fun v hv=>?_,fun v hv=>?_⟩;obtain⟨i,x,x',rfl,hx,hx',h1,h2⟩:=at_ v hv;rw[c.sar hx]at ha;obtain⟨b,hb,rfl⟩:=List.mem_map.1 ha;have:=c.to hx b hb;exact⟨by simp only[gA];omega,by rw[pT];simp only[gA];omega⟩;obtain⟨i,x,x',rfl,hx,hx',h1,h2⟩:=at_ v hv;simp only[id,UY hx,UY hx',cN,h1];obtain⟨i,x,x',rfl,hx,hx',h1,h2⟩:=at_ v hv;simp only[id,c.sar hx,c'.sar hx',h2];exact(List.map_id' _).symm
 have:=S.canon c.gok c'.gok (r:=(r:Int)) ⟨by omega,by rw[pT];omega⟩ ⟨by omega,by rw[pT];omega⟩ ⟨by simp only[id];omega,by rw[pT];simp only[id];omega⟩;exact this.2
def Ix(k:Nat)(a:bE):eE:=⟨a.Feat,k+a.To.toNat⟩
def sG(k:Nat)(x:bS):PN:=fC x.Typex (x.Arcs.map (Ix k))
theorem Nr{α β:Type}{f:α->Option β}{g:α->β}:∀{l:List α},(∀a∈l,f a=some (g a))->tX f l=some (l.map g)
 |[],_=>rfl|a::l,h=>by rw[tX,h a (by simp),aM,Nr fun b hb=>h b (by simp[hb]),aM];rfl
theorem YD(k:Nat){a:bE}(h:0<=a.To):gA (Ix k a)=TU k a:=by
 simp only[gA,Ix,TU,bE.mk.injEq,true_and];omega
variable{P:PP}
variable{f:GFS}
variable{k:Nat}
theorem ld(hs:cA f k)(hk:k<=1000000)(h0:0<f.Nodes.length)(hg:qB f)(hr:P.roots.length<=1000000):
  tC P f=some ((P.roots.length:Int),{ P with N:=P.N++f.Nodes.map (sG P.N.length),size:=IntKind.i64.wrap (P.size+f.Nodes.length),roots:=P.roots++[P.N.length] }):=by
 have hn:=hs.nodes;rw[tC,aH,if_pos ⟨h0,by omega,hr⟩,Nr (g:=sG P.N.length) fun x hx=>?_,aM];have:=hs.arcs x hx;rw[GG,aH,if_pos (by omega),Nr (g:=Ix P.N.length) fun a ha=>?_,aM];rfl;have h1:=(hg x hx).arc a ha;rw[Bn,decide_eq_true h1.2,zC];rfl
theorem Ot{x:bS}(h:∀a∈x.Arcs,0<=a.To):(sG k x).arcs.map gA=x.Arcs.map (TU k):=by
 simp only[sG,fC,List.map_map];exact List.map_congr_left fun a ha=>YD k (h a ha)
theorem vS{l:List bE}(h:lT l):lT (l.map (TU k)):=by
 unfold lT at*;rw[List.pairwise_map];exact h.imp fun{a b} q=>q
theorem LS(c:CO N)(hs:cA f k)(hk:k<=1000000)(hg:qB f)(hu:∀x∈f.Nodes,lT x.Arcs)(hl:N.length+f.Nodes.length<=1000000):CO (N++f.Nodes.map (sG N.length)):=by
 have hlen:(core (N++f.Nodes.map (sG N.length))).Nodes.length=N.length+f.Nodes.length:=by simp[pT]
 have Br:∀x∈f.Nodes,∀a∈x.Arcs,0<=a.To:=fun x hx a ha=>((hg x hx).arc a ha).2.1;refine⟨fun y hy=>?_,fun x hx=>?_,by simp;exact hl,fun x hx=>?_⟩;rw[hlen];obtain⟨x,hx,rfl⟩:=List.mem_map.1 hy;rcases yD.1 hx with hx |hx
 have:=c.gok (cN x) (List.mem_map_of_mem hx);rw[pT]at this;exact⟨this.ty,this.dis,fun a ha=>by have:=this.arc a ha;omega⟩;obtain⟨z,hz,rfl⟩:=List.mem_map.1 hx;have h1:=hg z hz;simp only[cN,Ot (Br z hz)];refine⟨h1.ty,(vS (hu z hz)).dis,fun a ha=>?_⟩;obtain⟨b,hb,rfl⟩:=List.mem_map.1 ha;have:=h1.arc b hb;simp only[TU];omega;rcases yD.1 hx with hx |hx;exact c.up x hx;obtain⟨z,hz,rfl⟩:=List.mem_map.1 hx;rw[Ot (Br z hz)];exact vS (hu z hz);rcases yD.1 hx with hx |hx;exact c.sm x hx;obtain⟨z,hz,rfl⟩:=List.mem_map.1 hx;have:=hs.arcs z hz;simp only[sG,fC,yA];omega
theorem ed(c':CO (N++f.Nodes.map (sG N.length)))(hg:qB f)(hu:∀x∈f.Nodes,lT x.Arcs){r:Nat}(hr:r<f.Nodes.length):j6 (core (N++f.Nodes.map (sG N.length))) ((N.length+r:Nat):Int)=j6 f (r:Int):=by
 have Br:∀x∈f.Nodes,∀a∈x.Arcs,0<=a.To:=fun x hx a ha=>((hg x hx).arc a ha).2.1;have hlen:(core (N++f.Nodes.map (sG N.length))).Nodes.length=N.length+f.Nodes.length:=by simp[pT]
 have at_:∀v,kY f v->∃(i:Nat)(x:bS),v=(i:Int)/\i<f.Nodes.length/\f.Nodes[i]? = some x/\nd f v=x/\(N++f.Nodes.map (sG N.length))[N.length+i]? = some (sG N.length x):=fun v hv=>by have h1:=hv.1;have h2:=hv.2;obtain⟨x,hx⟩:=Cq (l:=f.Nodes) (i:=v.toNat) (by omega);refine⟨v.toNat,x,by omega,by omega,hx,by simp[nd,hx],?_⟩;rw[List.getElem?_append_right (by omega),Nat.add_sub_cancel_left,List.getElem?_map,hx];rfl
 have S:kH f (core (N++f.Nodes.map (sG N.length))) (fun v=>v+(N.length:Int)) (kY f):=by refine⟨fun v hv a ha=>?_,fun _ _ _ _ h=>by omega,fun v hv=>?_,fun v hv=>?_⟩;obtain⟨i,x,rfl,hi,hx,e1,hx'⟩:=at_ v hv;have ha:=FN.1 ha;rw[e1]at ha;have:=(hg x (zX hx)).arc a ha;exact⟨this.2.1,this.2.2⟩;obtain⟨i,x,rfl,hi,hx,e1,hx'⟩:=at_ v hv;rw[show((i:Int)+(N.length:Int))=((N.length+i:Nat):Int) by omega,UY hx',e1];rfl;obtain⟨i,x,rfl,hi,hx,e1,hx'⟩:=at_ v hv;rw[show((i:Int)+(N.length:Int))=((N.length+i:Nat):Int) by omega,c'.sar hx',Ot (Br x (zX hx)),Go.Proofs.sar,e1,Mt (hu x (zX hx))];rfl
 have:=S.canon hg c'.gok (r:=(r:Int)) ⟨by omega,by omega⟩ ⟨by omega,by omega⟩ ⟨by omega,by rw[hlen];omega⟩;rw[show((N.length+r:Nat):Int)=(r:Int)+(N.length:Int) by omega];exact this.2
theorem LR(N:List PN)(f:GFS):Ex N.length N (N++f.Nodes.map (sG N.length)):=⟨by simp,fun i x hi hx=>⟨x,by rw[List.getElem?_append_left hi];exact hx,rfl,rfl⟩⟩
theorem uJ.upA{h:dY}(hf:uJ h f):∀x∈f.Nodes,lT x.Arcs:=fun x hx=>(hf.nok x hx).2.up
structure Has(P:PP)(fs:List GFS):Prop where
 co:CO P.N
 len:P.roots.length=fs.length
 at_:∀(k:Nat)(f:GFS),fs[k]? = some f->∃r,P.roots[k]? = some r/\r<P.N.length/\j6 (core P.N) (r:Int)=f
theorem Has.new(H:dY):Has (nV H) []:=⟨⟨fun x hx=>by simp[core,nV]at hx,nofun,by simp[nV],nofun⟩,rfl,nofun⟩
theorem Has.put{fs:List GFS}(p:Has P fs){h:dY}(hf:uJ h f)(hl:P.N.length+f.Nodes.length<=1000000)(hr:P.roots.length<=1000000):
  ∃P',tC P f=some ((P.roots.length:Int),P')/\Has P' (fs++[f])/\P'.N.length=P.N.length+f.Nodes.length/\P'.H=P.H/\P'.gen=P.gen:=by
 have c':=LS p.co hf.sm (by decide) hf.gok hf.upA hl;refine⟨_,ld hf.sm (by decide) hf.ne hf.gok hr,⟨c',by simp[p.len],fun k g hg=>?_⟩,by simp,rfl,rfl⟩;by_cases hk:k<fs.length;rw[List.getElem?_append_left hk]at hg;obtain⟨r,h1,h2,h3⟩:=p.at_ k g hg;exact⟨r,by show(P.roots++_)[k]? = _;rw[List.getElem?_append_left (by rw[p.len];exact hk)];exact h1,by simp;omega,by rw[<-h3];exact ti p.co c' (LR _ _) h2⟩;have m4:k<(fs++[f]).length:=(zG.1 hg).1;simp at m4;have:k=fs.length:=by omega
 subst this;simp at hg;subst hg;refine⟨P.N.length,by show(P.roots++_)[_]? = _;rw[<-p.len];simp,by have:=hf.ne;simp;omega,?_⟩;have:=ed c' hf.gok hf.upA (r:=0) hf.ne;rw[Nat.add_zero]at this;exact this.trans hf.can
variable{n:Nat}
theorem Has.read{fs:List GFS}(p:Has P fs)(hn:P.N.length<n)(h:fs[k]? = some f):rX n P (k:Int)=some (f,true):=by
 obtain⟨r,h1,h2,h3⟩:=p.at_ k f h;rw[sb p.co hn (r:=r) (by omega) (by rw[zZ];exact h1) h2,h3]
variable{a:Int}
variable{b:Int}
theorem Zj(h:¬ ((0<=a/\a<(P.roots.length:Int))/\0<=b/\b<(P.roots.length:Int))):EQ n P a b=some (none,P):=by
 rw[EQ];by_cases h1:a<0;rw[decide_eq_true h1,zC];rw[decide_eq_false h1,zD];by_cases h2:b<0;rw[decide_eq_true h2,zC];rw[decide_eq_false h2,zD];by_cases h3:a>=(P.roots.length:Int);rw[decide_eq_true h3,zC];rw[decide_eq_false h3,zD,decide_eq_true (by omega),zC]
theorem wv(h:¬ ((0<=a/\a<(P.roots.length:Int))/\0<=b/\b<(P.roots.length:Int))):rZ n P a b=some ((0,false),P):=by rw[rZ,Zj h];rfl
theorem Pk(h:¬ ((0<=a/\a<(P.roots.length:Int))/\0<=b/\b<(P.roots.length:Int))):rW n P a b=some (false,P):=by rw[rW,Zj h];rfl
end Go.Proofs
